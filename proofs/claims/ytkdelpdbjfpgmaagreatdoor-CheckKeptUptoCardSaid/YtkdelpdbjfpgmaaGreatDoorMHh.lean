/- uP of the proof (part 8): what the rows' text needs of the texts that lead to it. -/
import Derived.Test.YtkdelpdbjfpgmaaGreatDoorMHg
set_option linter.unusedVariables false
set_option linter.unusedSimpArgs false
set_option linter.unusedSectionVars false
set_option maxHeartbeats 4000000
set_option maxRecDepth 100000
namespace Go.Proofs.YtkdelpdbjfpgmaaGreatDoor
open Go Go.Sl
theorem Qr (l:List Int):tN l=l.map (Value.int .i64):=by
 induction l with
 | nil=>rfl
 | cons x l ih=>rw [wS,ih];rfl
theorem PQ (l l':List Int) (jk:List Value) (h:l'.length=l.length):Go.Sort.putCells (Value.int .i64) 0 l'.toArray (tN l++jk).toArray=(tN l'++jk).toArray:=by
 rw [Qr,Qr];apply Array.ext_getElem?;intro k;simp only [Go.Sort.putCells,Array.getElem?_mapIdx,lK,pK,aM,true_and,cR,nF];by_cases hk:k<l'.length
 · rw [bF Iv,bF Iv,bM,bM,aA (show k<l.length by omega),aA hk];simp [hk]
 rw [cB Iv,cB Iv,aN,aN,h];cases jk[k - l.length]? with
 | none=>rfl
 | some v=>simp [hk];intro h2;omega
theorem JY {w:World} {G:A3} {b:Nat} {l:List Int} {jk:List Value} {E:TypeId} (hw:B3 [(0,some b,Row E l jk)] G w):Go.Sort.Holds (Value.int .i64) w b 0 l.toArray:=by
 intro j hj;have hj:j<l.length:=by simpa using hj
 have ho:w.heap[b]?=some (Row E l jk):=hw.own 0 b _ U;constructor
 · show World.cell? w ⟨b,0+j,none⟩=_;unfold World.cell?;rw [show w.heap[(⟨b,0+j,none⟩:Addr).block]?=some (Row E l jk) from ho];show (tN l++jk).toArray[0+j]?=_;rw [cR,lK,Qr,bF (by rw [aN];exact hj),bM,aA hj];simp [hj]
 show World.frozen? w ⟨b,0+j,none⟩=_;unfold World.frozen?;rw [show w.heap[(⟨b,0+j,none⟩:Addr).block]?=some (Row E l jk) from ho];show (decide (0≤0+j) && decide (0+j<0))=false;simp
theorem UZ {w:World} {G:A3} {b n:Nat} {l l':List Int} {jk:List Value} {E:TypeId} {os:Array Obj} (hw:B3 [(0,some b,Row E l jk)] G w) (hlen:l'.length=l.length) {v:Value} :
 B7 G [(0,some b,Row E l jk)] w (fun v' G' Ho=>v'=v∧G'=G∧Ho=[(0,some b,Row E l' jk)]) (.returned v) (Go.Sort.grow (Go.Sort.putRow (Value.int .i64) (Go.Sort.ahead w n) b 0 l'.toArray) os):=by
 have ho:w.heap[b]?=some (Row E l jk):=hw.own 0 b _ U;have hb:b<w.heap.size:=by
  rcases aK b w.heap.size with h | h
  · exact h
  rw [nO h] at ho;cases ho
 have hget:∀ k,k<w.heap.size→(Go.Sort.grow (Go.Sort.putRow (Value.int .i64) (Go.Sort.ahead w n) b 0 l'.toArray) os).heap[k]?=if b=k then some (Row E l' jk) else w.heap[k]?:=by
  intro k hk;show ((w.heap.modify b (Go.Sort.onCells (Go.Sort.putCells (Value.int .i64) 0 l'.toArray)))++os)[k]?=_;rw [pF (by rw [Array.size_modify];exact hk),qS];split
  · rename_i e;subst e;rw [ho];show some (Obj.cells (Go.Sort.putCells (Value.int .i64) 0 l'.toArray (tN l++jk).toArray) E (0,0))=_;rw [PQ _ _ _ hlen];rfl
  rfl
 have hone:∀ {o':Obj} {t b':Nat} {o:Obj},Hp.get [(0,some b,o')] t=some (some b',o)→t=0∧b=b'∧o'=o:=by
  intro o' t b' o h;rw [bH] at h;split at h
  · rename_i e;simp at h;exact ⟨e.symm,h.1,h.2⟩
  simp [Hp.get] at h
 refine ⟨v,G,[(0,some b,Row E l' jk)],U,⟨?_,?_,?_,?_⟩,bN _,⟨U,U,U,?_,?_⟩,?_,?_,U,U,U⟩
 · intro t b' o h;obtain ⟨_,e,e2⟩:=hone h;subst e;subst e2;rw [hget b hb,aF rfl]
 · intro t t' b' o o' h h';rw [(hone h).1,(hone h').1]
 · intro b' o h;have h1:=hw.imm b' o h;have h2:b'<w.heap.size:=by
    rcases aK b' w.heap.size with h | h
    · exact h
    rw [nO h] at h1;cases h1
   rw [hget b' h2,aD]
   · exact h1
   intro e;subst e;have:=hw.off 0 b _ U;rw [h] at this;cases this
 · intro t b' o h;obtain ⟨_,e,_⟩:=hone h;subst e;exact hw.off 0 b _ U
 · show w.heap.size≤((w.heap.modify b _)++os).size;rw [Array.size_append,Array.size_modify];omega
 · intro k hk hx;rw [hget k hk,aD];intro e;subst e;exact hx ⟨0,_,U⟩
 · intro b' h h';exact absurd h' h
 intro t b' o h;obtain ⟨_,e,_⟩:=hone h;subst e;exact .inr ⟨0,_,U⟩
theorem ki (G:A3) (b c:Nat) (l:List Int) (jk:List Value) (h:l.length<4611686018427387904) :
 Does Tryz.prog 190 [.slice (some ⟨b,0,none⟩) l.length c] G [(0,some b,Row 3 l jk)] (fun v G' Ho=>v=.tuple #[]∧G'=G∧Ho=[(0,some b,Row 3 (l.mergeSort fun x y=>decide (x≤y)) jk)]):=fun w hw=>by
 have ho:w.heap[b]?=some (Row 3 l jk):=hw.own 0 b _ U;have hb:b<w.heap.size:=by
  rcases aK b w.heap.size with h | h
  · exact h
  rw [nO h] at ho;cases ho
 have h69:Calls Tryz.prog 190 #[.slice (some ⟨b,0,none⟩) l.length c] w _:=Any.slices_Sort_int Tryz.laysSort b 0 c l w (JY hw) hb h;refine h69.mono ?_;rintro e w' ⟨rfl,n,os,rfl⟩;exact UZ hw (List.length_mergeSort l)
theorem dh (G:A3) (c:Nat):Does Tryz.prog 190 [.slice none 0 c] G [] (fun v G' Ho=>v=.tuple #[]∧G'=G∧Ho=[]):=fun w hw=>by
 have h69:Calls Tryz.prog 190 #[.slice none 0 c] w _:=Any.slices_Sort_int_none Tryz.laysSort none c w;refine h69.mono ?_;rintro e w' ⟨rfl,rfl⟩;exact ⟨_,G,[],U,hw,bN _,mR _ _,fun _ h h'=>absurd h' h,fun t b o h=>by simp [Hp.get] at h,U,U,U⟩
theorem JZ (l:List Int):(l.mergeSort fun x y=>decide (x≤y)).Pairwise (·≤·):=
 (List.pairwise_mergeSort (le:=fun x y:Int=>decide (x≤y)) (fun a b c h1 h2=>by simp at *;omega) (fun a b=>by simp;omega) l).imp (fun h=>by simpa using h)
section
attribute [local irreducible] tW
theorem di (G:A3) (a b c d:Int) (h:near a b) (h':near c d):Does Tryz.prog 229 [.agg #[.int .i64 a,.int .i64 b],.agg #[.int .i64 c,.int .i64 d]] G [] (fun v G' Ho=>v=.tuple #[.int .i64 (a*d - c*b),.int .i64 0]∧G'=G∧Ho=[]):=
 (gy G a b c d).mono fun v G' Ho _ ⟨e1,e2,e3⟩=>⟨by rw [e1,aF ⟨h,h'⟩,aF ⟨h,h'⟩],e2,e3⟩
end
theorem kj (G:A3) (b:Nat) (ac:Option Addr) (cc:Nat) (code:List Sl.Instr) (j:List Value) (wa:Option Addr) (wc:Nat) (wh:List R2) (k:Int) (la:Option Addr) (lc:Nat) (left:List Int) (e:Nat) (ho:A4 ac cc code j) (hw:Arr G wa wh) (hla:Arr G la left)
 (hwl:wh.length≤15) (hk:0≤k∧k<wh.length) (hll:left.length≤15) (hleft:∀ i,i<left.length→0≤left[i]?.getD default∧left[i]?.getD default<wh.length) (he:e≤14) (hok:∀ i,i<wh.length→Nz (wh[i]?.getD default)) (hl:(code++yU wh.length wh k e left).length≤1048576) :
 Does Tryz.prog 194 [.pointer (some ⟨b,0,none⟩),.int .i64 k,.slice la left.length lc,.int .i64 e] G [(0,some b,.cells #[.int .i64 wh.length,.slice ac code.length cc,.slice wa wh.length wc] 267),(1,ac.map (·.block),Row 91 code j)]
  (fun v G' Ho=>v=.tuple #[]∧G'=G∧∃ (a':Option Addr) (c':Nat) (j':List Value),A4 a' c' (code++yU wh.length wh k e left) j'∧Ho=[(0,some b,.cells #[.int .i64 wh.length,.slice a' (code++yU wh.length wh k e left).length c',.slice wa wh.length wc] 267),(1,a'.map (·.block),Row 91 (code++yU wh.length wh k e left) j')]):=by
 have hl0:code.length≤1048576:=by rw [aB] at hl;omega
 obtain ⟨hnk,hzk⟩:=hok k.toNat sN;obtain ⟨_,b2,_,_⟩:=Ft hnk hzk;refine gF Tryz.func194 U Tryz.ntmps194 U fun w=>?_;refine mP ?_;refine aI 7 [0] ?_;refine cD U (iI (α:=R2) T.sl22 U U sO sN) ?_;refine cD U (gH T.agg52 U (lH sO sN) U) ?_;refine aO 2 U T.zero52 fun b1=>?_;refine aL 6 [2,2] ?_;refine mO U T.fn192 U (YQ _ _ _ sO sO) ?_;refine bB 22 [] ?_;generalize hTg:code++yU wh.length wh k e left=Tg at *;refine fT (ι:=Nat×List Sl.Instr×(Option Addr×Nat×List Value)) (fun (t,cd,(o,d,q))=>([(35,.int .i64 (t:Int)),(34,Go.Value.int Go.IntKind.i64 (↑(List.length left):Int)),(33,Go.Value.slice la (List.length left) lc),(11,Go.Value.int Go.IntKind.i64 (Go.Proofs.YtkdelpdbjfpgmaaGreatDoor.bezT (Go.Sl.R2.a (Option.getD wh[Int.toNat k]? Inhabited.default)) (Go.Sl.R2.b (Option.getD wh[Int.toNat k]? Inhabited.default)))),(10,Go.Value.int Go.IntKind.i64 (Go.Proofs.YtkdelpdbjfpgmaaGreatDoor.bezS (Go.Sl.R2.a (Option.getD wh[Int.toNat k]? Inhabited.default)) (Go.Sl.R2.b (Option.getD wh[Int.toNat k]? Inhabited.default)))),(8,Go.Value.pointer (Option.some (Go.Addr.mk b1 0 Option.none))),(0,Go.Value.pointer (Option.some (Go.Addr.mk b 0 Option.none))),(1,Go.Value.int Go.IntKind.i64 k),(3,Go.Value.int Go.IntKind.i64 (↑e:Int))],[(0,some b,.cells #[.int .i64 wh.length,.slice o cd.length d,.slice wa wh.length wc] 267),(1,o.map (·.block),Row 91 cd q),(2,Option.some b1,Go.Obj.cells (List.toArray (Go.Sl.A2.enc (Option.getD wh[Int.toNat k]? Inhabited.default))) 52)])) (fun (t,cd,(o,d,q))=>t≤left.length∧cd++yU wh.length wh k e (left.drop t)=Tg∧A4 o d cd q) (fun (t,cd,(o,d,q))=>left.length - t) ((0,code,(ac,cc,j))) (⟨aM _,hTg,ho⟩) ⟨U,U,U,U,U,U,U,U,U,F9⟩ ⟨U,U,U,F9⟩ fun ⟨t,cd,(o,d,q)⟩=>fun hk=>?_;obtain ⟨ht1,ht3,ht4⟩:=hk;have htl:cd.length≤1048576:=by rw [←ht3,aB] at hl;omega
 rcases aK t left.length with hte | hte
 · have hi:=hleft t hte;have hdr:left.drop t=left[(t:Int).toNat]?.getD default :: left.drop (t+1):=by
    rw [dM hte,aE,aA hte];rfl
   rw [aE] at hdr;obtain ⟨hni,hzi⟩:=hok (left[(t:Int).toNat]?.getD default).toNat Tc;have hi':0≤left[(t:Int).toNat]?.getD default∧left[(t:Int).toNat]?.getD default<wh.length:=by rw [aE];exact hi
   rw [hdr] at ht3;have ht3:cd++(Cc wh.length wh k e (left[(t:Int).toNat]?.getD default)++yU wh.length wh k e (left.drop (t+1)))=Tg:=by rw [aE];exact ht3
   have hlr:-512≤Bv wh k (left[(t:Int).toNat]?.getD default)∧Bv wh k (left[(t:Int).toNat]?.getD default)≤512:=GO b2 hni;have hm1:(bezS (wh[k.toNat]?.getD default).a (wh[k.toNat]?.getD default).b*(wh[(left[(t:Int).toNat]?.getD default).toNat]?.getD default).a).natAbs≤17*16:=by rw [fZ];exact gQ sN (by unfold near at hni;omega)
   have hm2:(bezT (wh[k.toNat]?.getD default).a (wh[k.toNat]?.getD default).b*(wh[(left[(t:Int).toNat]?.getD default).toNat]?.getD default).b).natAbs≤17*16:=by rw [fZ];exact gQ sN (by unfold near at hni;omega)
   have hTl:cd.length+(Cc wh.length wh k e (left[(t:Int).toNat]?.getD default)).length≤1048576:=by rw [←ht3,aB,aB] at hl;omega
   unfold Cc at ht3 hTl;rw [aB] at hTl;refine aI 13 [1] ?_;refine cD U (iI (α:=Int) T.sl24 U U sO sN) ?_;refine cD U (bW T.one3 U (gB sO sN 0 U U)) ?_;refine aL 10 [0] ?_;refine cD U (iI (α:=R2) T.sl22 U U sO sN) ?_;refine cD U (gH T.agg52 U (lH sO sN) U) ?_;refine aO 3 U T.zero52 fun b3=>?_;refine aL 7 [3,2,3] ?_;refine mO U T.fn229 U (di _ _ _ _ _ sO sO) ?_;refine aL 12 [3] ?_;refine cD U (lZ U U sN) ?_;refine aC 3 [3] ?_;refine cD U (lZ U U sN) ?_;refine aL 10 [] ?_;apply dS 3 63 66 U;intro hg1;refine aC 5 [] ?_;exact iO 3 0 U U U U U;intro hg1;refine aC 3 [] ?_;exact iO 3 0 U U U U U;refine bB 2 [] ?_;refine nD U (fun hc1=>?_) fun hc1=>?_;refine aI 4 [] ?_;refine eD 0 U T.fn231 U (BD _ b _ _ _ sN) (sS ⟨U,F9⟩) ?_;refine aC 3 [] ?_;rotate_left;refine bI 9 [] ?_;refine nD U (fun hc2=>?_) fun hc2=>?_;refine bE 8 [] ?_;rotate_left;refine aI 6 [] ?_;rotate_left
   · have hcc:Bv wh k (left[(t:Int).toNat]?.getD default)≠0∨e=0:=by
      rcases hc1 with h | h
      · exact .inl h
      exact .inr sN
     rw [aF hcc] at ht3 hTl;rw [aB,jQ] at hTl;have hq1:(cd++Am (3*(wh.length:Int)) k (Bv wh k (left[(t:Int).toNat]?.getD default)) e).length≤1048576:=by rw [aB];omega
     refine eL 0 U T.fn230 U (kh _ b _ o d cd q wa _ wc (3*(wh.length:Int)) k (Bv wh k (left[(t:Int).toNat]?.getD default)) e ht4 hq1 hlr sN) (sS ⟨U,U,F9⟩) fun v1 G1 Ho1 hle1 hp=>?_;obtain ⟨rfl,rfl,a1,d1,j1,ho1,rfl⟩:=hp;refine aL 7 [] ?_;refine eD 0 U T.fn231 U (BD _ b _ _ _ sN) (sS ⟨U,F9⟩) ?_;refine eL 0 U T.fn228 U (Sw _ b _ a1 d1 (cd++Am (3*(wh.length:Int)) k (Bv wh k (left[(t:Int).toNat]?.getD default)) e) j1 wa _ wc _ _ _ _ _ ho1 hq1) (sS ⟨U,U,F9⟩) fun v2 G2 Ho2 hle2 hp=>?_;obtain ⟨rfl,rfl,a2,d2,j2,ho2,rfl⟩:=hp;refine bB 9 [] ?_;refine nD U (fun hc2=>?_) fun hc2=>?_;refine bE 8 [] ?_;rotate_left;refine aI 6 [] ?_;rotate_left
     · have hdd:An wh k (left[(t:Int).toNat]?.getD default)=1:=hc2;rw [aF hdd,aY] at ht3;refine cJ 35 U (show _=Value.int .i64 ((t+1:Nat):Int) from U) ?_;refine eO ((t+1,(cd++Am (3*(wh.length:Int)) k (Bv wh k (left[(t:Int).toNat]?.getD default)) e++[(⟨4,(left[(t:Int).toNat]?.getD default),(left[(t:Int).toNat]?.getD default),3*(wh.length:Int),0⟩:Sl.Instr)]),(a2,d2,j2))) ?_ ?_ U ⟨U,U,U,U,U,U,U,U,U,F9⟩ ⟨U,U,U,F9⟩
       · refine ⟨hte,?_,ho2⟩;rw [←ht3];simp only [aR]
       show left.length - (t+1)<left.length - t;omega
     have hdd:¬An wh k (left[(t:Int).toNat]?.getD default)=1:=hc2;rw [aD hdd] at ht3 hTl;have hq2:(cd++Am (3*(wh.length:Int)) k (Bv wh k (left[(t:Int).toNat]?.getD default)) e++[(⟨4,(left[(t:Int).toNat]?.getD default),(left[(t:Int).toNat]?.getD default),3*(wh.length:Int),0⟩:Sl.Instr)]).length≤1048576:=by rw [aB,aB,jQ];omega
     refine eL 0 U T.fn193 U (YN _ b _ a2 d2 (cd++Am (3*(wh.length:Int)) k (Bv wh k (left[(t:Int).toNat]?.getD default)) e++[(⟨4,(left[(t:Int).toNat]?.getD default),(left[(t:Int).toNat]?.getD default),3*(wh.length:Int),0⟩:Sl.Instr)]) j2 wa _ wc _ _ ho2 hq2) (sS ⟨U,U,F9⟩) fun v3 G3 Ho3 hle3 hp=>?_;obtain ⟨rfl,rfl,a3,d3,j3,ho3,rfl⟩:=hp;refine aS 7 [] ?_;refine cJ 35 U (show _=Value.int .i64 ((t+1:Nat):Int) from U) ?_;refine eO ((t+1,(cd++Am (3*(wh.length:Int)) k (Bv wh k (left[(t:Int).toNat]?.getD default)) e++[(⟨4,(left[(t:Int).toNat]?.getD default),(left[(t:Int).toNat]?.getD default),3*(wh.length:Int),0⟩:Sl.Instr)])++xR (left[(t:Int).toNat]?.getD default) (An wh k (left[(t:Int).toNat]?.getD default)),(a3,d3,j3))) ?_ ?_ U ⟨U,U,U,U,U,U,U,U,U,F9⟩ ⟨U,U,U,F9⟩
     · refine ⟨hte,?_,ho3⟩;rw [←ht3];simp only [aR]
     show left.length - (t+1)<left.length - t;omega
   · have hcc:¬(Bv wh k (left[(t:Int).toNat]?.getD default)≠0∨e=0):=fun h=>hc1 (h.elim .inl (fun h=>.inr sN));rw [aD hcc] at ht3 hTl;have hdd:An wh k (left[(t:Int).toNat]?.getD default)=1:=hc2;rw [aF hdd] at ht3;refine cJ 35 U (show _=Value.int .i64 ((t+1:Nat):Int) from U) ?_;refine eO ((t+1,cd,(o,d,q))) ?_ ?_ U ⟨U,U,U,U,U,U,U,U,U,F9⟩ ⟨U,U,U,F9⟩
     · exact ⟨hte,ht3,ht4⟩
     show left.length - (t+1)<left.length - t;omega
   have hcc:¬(Bv wh k (left[(t:Int).toNat]?.getD default)≠0∨e=0):=fun h=>hc1 (h.elim .inl (fun h=>.inr sN));rw [aD hcc] at ht3 hTl;have hdd:¬An wh k (left[(t:Int).toNat]?.getD default)=1:=hc2;rw [aD hdd] at ht3;refine eL 0 U T.fn193 U (YN _ b _ o d cd q wa _ wc _ _ ht4 htl) (sS ⟨U,U,F9⟩) fun v1 G1 Ho1 hle1 hp=>?_;obtain ⟨rfl,rfl,a1,d1,j1,ho1,rfl⟩:=hp;refine aS 7 [] ?_;refine cJ 35 U (show _=Value.int .i64 ((t+1:Nat):Int) from U) ?_;refine eO ((t+1,cd++xR (left[(t:Int).toNat]?.getD default) (An wh k (left[(t:Int).toNat]?.getD default)),(a1,d1,j1))) ?_ ?_ U ⟨U,U,U,U,U,U,U,U,U,F9⟩ ⟨U,U,U,F9⟩
   · refine ⟨hte,?_,ho1⟩;rw [←ht3,fV];simp only [aR]
   show left.length - (t+1)<left.length - t;omega
 have hte:t=left.length:=sN;subst hte;rw [nU] at ht3;have ht3:cd=Tg:=by rw [←ht3];exact (aY _).symm
 subst ht3;refine bE 11 [0] ?_;refine nX ?_;refine kD zR (Ho:=[(0,some b,.cells #[.int .i64 wh.length,.slice o cd.length d,.slice wa wh.length wc] 267),(1,o.map (·.block),Row 91 cd q)]) U ⟨U,U,F9⟩ ?_;exact ⟨U,U,o,d,q,ht4,U⟩
end Go.Proofs.YtkdelpdbjfpgmaaGreatDoor
namespace Go.Sl
open Go
theorem C4 (y:Bool):Value.bool y=Value.bool (decide (y=true)):=by cases y <;> rfl
section
variable {α:Type} [A2 α] [Inhabited α] {P:Program} {ops:Array Oper} {rest:List Oper} {B:Bs} {e:A9} {D:List Deferred} {H:Hp} {G:A3} {K:Act→World→Prop}
 {ty:TypeId} {pos:String} {after:Array Edge} {d:Nat}
end
section
variable {α:Type} [A2 α] {P:Program} {ops:Array Oper} {rest:List Oper} {B:Bs} {e:A9} {D:List Deferred} {H:Hp} {G:A3} {K:Act→World→Prop}
 {ty:TypeId} {pos:String} {after:Array Edge} {d:Nat}
end
end Go.Sl
namespace Go.Proofs.YtkdelpdbjfpgmaaGreatDoor
open Go Go.Sl
theorem Cy {n u v:Int} {ti:List Bool} {m:Nat} {low own:Bool} (hl:(decide (0<m) && ti[m - 1]?.getD false && decide (u≠0))=low) (ho:(ti[m]?.getD false && decide (v≠0))=own) :
 Bj n u v ti m=(ti.set m (own || low),(if low then sW (3*n) (2*n+(m - 1)) u else [])++(if own && low then sW (2*n+m) (2*n+m) v++[⟨3,2*n+m,2*n+m,3*n,0⟩] else if own then sW (2*n+m) (2*n+m) v else if low then sW (2*n+m) (3*n) 1 else [])):=by
 subst hl ho;rfl
theorem kl (G:A3) (b:Nat) (ac:Option Addr) (cc:Nat) (code:List Sl.Instr) (j:List Value) (wa:Option Addr) (wc:Nat) (wh:List R2) (k:Int) (e:Nat) (ho:A4 ac cc code j) (hw:Arr G wa wh)
 (hwl:wh.length≤15) (hk:0≤k∧k<wh.length) (he:e<wh.length) (hok:Nz (wh[k.toNat]?.getD default)) (hl:(code++zP wh.length (bezS (wh[k.toNat]?.getD default).a (wh[k.toNat]?.getD default).b) (bezT (wh[k.toNat]?.getD default).a (wh[k.toNat]?.getD default).b) k e).length≤1048576) :
 Does Tryz.prog 232 [.pointer (some ⟨b,0,none⟩),.int .i64 k,.int .i64 e] G [(0,some b,.cells #[.int .i64 wh.length,.slice ac code.length cc,.slice wa wh.length wc] 267),(1,ac.map (·.block),Row 91 code j)]
  (fun v G' Ho=>G'=G∧∃ (a':Option Addr) (c':Nat) (j':List Value) (th:List Bool) (cd:List Sl.Instr) (tb:Nat),th=xZ wh.length (bezS (wh[k.toNat]?.getD default).a (wh[k.toNat]?.getD default).b) (bezT (wh[k.toNat]?.getD default).a (wh[k.toNat]?.getD default).b) e∧
   cd=code++zP wh.length (bezS (wh[k.toNat]?.getD default).a (wh[k.toNat]?.getD default).b) (bezT (wh[k.toNat]?.getD default).a (wh[k.toNat]?.getD default).b) k e∧v=.slice (some ⟨tb,0,none⟩) th.length th.length∧A4 a' c' cd j'∧A4 (some ⟨tb,0,none⟩) th.length th []∧
   Ho=[(0,some b,.cells #[.int .i64 wh.length,.slice a' cd.length c',.slice wa wh.length wc] 267),(1,a'.map (·.block),Row 91 cd j'),(2,some tb,Row 4 th [])]):=by
 have hl0:code.length≤1048576:=by rw [aB] at hl;omega
 obtain ⟨hnk,hzk⟩:=hok;obtain ⟨_,b2,_,_⟩:=Ft hnk hzk;refine gF Tryz.func232 U Tryz.ntmps232 U fun w=>?_;refine aI 12 [0] ?_;refine cD U (iI (α:=R2) T.sl22 U U sO sN) ?_;refine cD U (gH T.agg52 U (lH sO sN) U) ?_;refine mO U T.fn192 U (YQ _ _ _ sO sO) ?_;refine aL 15 [] ?_;refine gG (α:=Bool) 2 U T.sl138 T.el4 U U sN sN fun b1=>?_;refine aL 6 [] ?_;generalize hu:bezS (wh[k.toNat]?.getD default).a (wh[k.toNat]?.getD default).b=u at *;generalize hv:bezT (wh[k.toNat]?.getD default).a (wh[k.toNat]?.getD default).b=v at *;have hR1:List.replicate ((e:Int)+1).toNat (default:Bool)=List.replicate (e+1) false:=by rw [show ((e:Int)+1).toNat=e+1 by omega];rfl
 generalize hR0:List.replicate ((e:Int)+1).toNat (default:Bool)=R0 at *;have hR0l:R0.length=e+1:=by rw [hR1,aJ]
 have hoR:A4 (some ⟨b1,0,none⟩) R0.length R0 []:=fK On;refine cD U (dX (α:=Bool) T.sl138 U U sO sN) ?_;refine dC (z:=_) 2 T.size4 U U U sO sN U fun ho1=>?_;refine aL 6 [] ?_;refine eD 0 U T.fn233 U (Ma _ b _ _ _ _ sN sN) (sS ⟨U,F9⟩) ?_;refine cD U (dD U) ?_;refine eL 0 U T.fn195 U (Gq _ b _ ac cc code j wa _ wc _ _ _ ho hl0) (sS ⟨U,U,F9⟩) fun v1 G1 Ho1 hle1 hp=>?_;obtain ⟨rfl,rfl,a1,d1,j1,ho1,rfl⟩:=hp;refine bB 9 [] ?_;have hTg:code++zP wh.length u v k e=(code++sW (2*(wh.length:Int)+0) k 1)++(Ib wh.length u v e 1 (R0.set (Int.toNat 0) true)).2:=by
  unfold zP;rw [fI,hR1,aR];rfl
 have hTh:xZ wh.length u v e=(Ib wh.length u v e 1 (R0.set (Int.toNat 0) true)).1:=by unfold xZ;rw [hR1];rfl
 generalize code++zP wh.length u v k e=Tg at *;generalize xZ wh.length u v e=Th at *;refine iV 11 U (show _=Value.slice (some ⟨b1,0,none⟩) (R0.set (Int.toNat 0) true).length (e+1) by rw [aG,hR0l]) ?_;refine fT (ι:=Nat×List Bool×List Sl.Instr×(Option Addr×Nat×List Value)) (fun (d,th,cd,(o,dd,q))=>([(12,.int .i64 (d:Int)),(11,.slice (some ⟨b1,0,none⟩) th.length (e+1)),(9,Go.Value.int Go.IntKind.i64 v),(8,Go.Value.int Go.IntKind.i64 u),(6,Go.Value.slice Option.none 0 0),(0,Go.Value.pointer (Option.some (Go.Addr.mk b 0 Option.none))),(2,Go.Value.int Go.IntKind.i64 (↑e:Int))],[(0,some b,.cells #[.int .i64 wh.length,.slice o cd.length dd,.slice wa wh.length wc] 267),(1,o.map (·.block),Row 91 cd q),(2,some b1,Row 4 th [])])) (fun (d,th,cd,(o,dd,q))=>(1≤d∧d≤e+1)∧th.length=e+1∧(Ib wh.length u v (e+1 - d) d th).1=Th∧cd++(Ib wh.length u v (e+1 - d) d th).2=Tg∧A4 (some ⟨b1,0,none⟩) (e+1) th []∧A4 o dd cd q) (fun (d,th,cd,(o,dd,q))=>e+1 - d) ((1,_,code++sW (2*(wh.length:Int)+0) k 1,(a1,d1,j1))) (⟨by omega,by rw [aG,hR0l],hTh.symm,hTg.symm,by rw [←hR0l];assumption,ho1⟩) ⟨U,U,U,U,U,U,U,F9⟩ ⟨U,U,U,F9⟩ fun ⟨d,th,cd,(o,dd,q)⟩=>fun hk=>?_;obtain ⟨⟨hd1,hd2⟩,hth,hT1,hT2,hoT,hoC⟩:=hk;have hcl:cd.length≤1048576:=by rw [←hT2,aB] at hl;omega
 rcases aK d (e+1) with hde | hde
 · have e1:e+1 - d=(e+1 - (d+1))+1:=sN;rw [e1] at hT1 hT2;unfold Ib at hT1 hT2;simp only at hT1 hT2;refine bI 20 [1] ?_;generalize hA1:(Uj wh.length u v (d+1) th).1=A1 at *;generalize hB1:(Uj wh.length u v (d+1) th).2=B1 at *;have hcb:(cd++B1).length≤1048576:=by rw [←hT2,←aR,aB] at hl;omega
   refine iV 13 U (show _=Value.int .i64 (((d+1:Nat):Int) - 1) by congr 1;omega) ?_;refine fT (ι:=Nat×List Bool×List Sl.Instr×(Option Addr×Nat×List Value)) (fun (m,ti,ci,(o,dd,q))=>([(13,.int .i64 ((m:Int) - 1)),(2,.int .i64 (e:Int)),(12,.int .i64 (d:Int)),(11,.slice (some ⟨b1,0,none⟩) ti.length (e+1)),(9,Go.Value.int Go.IntKind.i64 v),(8,Go.Value.int Go.IntKind.i64 u),(6,Go.Value.slice Option.none 0 0),(0,Go.Value.pointer (Option.some (Go.Addr.mk b 0 Option.none)))],[(0,some b,.cells #[.int .i64 wh.length,.slice o ci.length dd,.slice wa wh.length wc] 267),(1,o.map (·.block),Row 91 ci q),(2,some b1,Row 4 ti [])])) (fun (m,ti,ci,(o,dd,q))=>m≤d+1∧ti.length=e+1∧(Uj wh.length u v m ti).1=A1∧ci++(Uj wh.length u v m ti).2=cd++B1∧A4 (some ⟨b1,0,none⟩) (e+1) ti []∧A4 o dd ci q) (fun (m,ti,ci,(o,dd,q))=>m) ((d+1,th,cd,(o,dd,q))) (⟨aH _,hth,hA1,by rw [hB1],hoT,hoC⟩) ⟨U,U,U,U,U,U,U,U,F9⟩ ⟨U,U,U,F9⟩ fun ⟨m,ti,ci,(o,dd,q)⟩=>fun hk=>?_;obtain ⟨hm1,hti,hS1,hS2,hoTi,hoCi⟩:=hk;have hcil:ci.length≤1048576:=by rw [←hS2,aB] at hcb;omega
   match m,hm1,hS1,hS2 with
   | 0,hm1,hS1,hS2 =>
     have hS1:ti=A1:=hS1;have hS2:ci=cd++B1:=by rw [←hS2];exact (aY _).symm
     refine bE 19 [0] ?_;refine cJ 12 U (show _=Value.int .i64 ((d+1:Nat):Int) from U) ?_;refine eO ((d+1,ti,ci,(o,dd,q))) ?_ ?_ U ⟨U,U,U,U,U,U,U,F9⟩ ⟨U,U,U,F9⟩
     · refine ⟨by omega,hti,?_,?_,hoTi,hoCi⟩
       · rw [hS1];exact hT1
       rw [hS1,hS2,aR];exact hT2
     · show e+1 - (d+1)<e+1 - d;omega
   | m+1,hm1,hS1,hS2 =>
     refine iV 13 U (show _=Value.int .i64 (m:Int) by congr 1;omega) ?_;unfold Uj at hS1 hS2;simp only at hS1 hS2;have hdf:∀ z:Nat,ti[z]?.getD default=ti[z]?.getD false:=fun z=>rfl;have hlowF:(¬(0<m∧ti[m - 1]?.getD false=true∧u≠0))→(decide (0<m) && ti[m - 1]?.getD false && decide (u≠0))=false:=fun h=>by
      cases hx:ti[m - 1]?.getD false <;> by_cases h1:0<m <;> by_cases h2:u≠0 <;> simp [h1,h2];exact h ⟨h1,hx,h2⟩
     have hownF:(¬(ti[m]?.getD false=true∧v≠0))→(ti[m]?.getD false && decide (v≠0))=false:=fun h=>by
      cases hx:ti[m]?.getD false <;> by_cases h2:v≠0 <;> simp [h2];exact h ⟨hx,h2⟩
     have hownT:(ti[m]?.getD false=true∧v≠0)→(ti[m]?.getD false && decide (v≠0))=true:=fun h=>by rw [h.1,bL h.2];rfl
     have hlowT:(0<m∧ti[m - 1]?.getD false=true∧u≠0)→(decide (0<m) && ti[m - 1]?.getD false && decide (u≠0))=true:=fun h=>by rw [h.2.1,bL h.1,bL h.2.2];rfl
     have hbd:(ci++(Bj wh.length u v ti m).2).length≤1048576:=by
      have:(ci++((Bj wh.length u v ti m).2++(Uj wh.length u v m (Bj wh.length u v ti m).1).2)).length≤1048576:=by rw [hS2];exact hcb
      rw [aB,aB] at this;rw [aB];omega
     have hoN:∀ {x:Bool},A4 (some ⟨b1,0,none⟩) (e+1) (ti.set m x) []:=hoTi.elim (fun h=>by cases h.1) (fun ⟨b,h1,h2,h3,h4⟩=>.inr ⟨b,h1,by rw [aG];exact h2,by rw [aG];exact h3,h4⟩);rcases gD m with hm0 | hm0
     · by_cases hO:ti[(m:Int).toNat]?.getD default=true∧v≠0
       · have hrs:=Cy (n:=wh.length) (hlowF (fun h=>by omega)) (hownT hO);rw [hrs] at hbd;refine aI 17 [1] ?_;refine oL 51 U tY ?_;refine aL 17 [] ?_;refine cD U (dX (α:=Bool) T.sl138 U U sO sN) ?_;refine cD U (fF 2 0 T.one4 U U sO sN U U) ?_;refine cD U (dD U) ?_;refine fO 66 U (Go.Sl.C4 _) ?_;apply bX 3 66 69 U;intro hg1;refine aC 5 [] ?_;exact iO 3 0 U U U U U;intro hg1;refine aC 3 [] ?_;exact iO 3 0 U U U U U;refine aL 18 [0] ?_;refine kL 82 U tY ?_;refine aL 18 [0,1] ?_;refine eD 0 U T.fn233 U (Ma _ b _ _ _ _ sN sN) (sS ⟨U,F9⟩) ?_;refine aC 2 [] ?_;refine eD 0 U T.fn233 U (Ma _ b _ _ _ _ sN sN) (sS ⟨U,F9⟩) ?_;refine cD U (dD U) ?_;refine eL 0 U T.fn195 U (Gq _ b _ o dd ci q wa _ wc _ _ _ hoCi hcil) (sS ⟨U,U,F9⟩) fun v2 G2 Ho2 hle2 hp=>?_;obtain ⟨rfl,rfl,a2,d2,j2,ho2,rfl⟩:=hp;refine aL 8 [] ?_;refine kL 127 U tY ?_;refine aC 2 [] ?_;refine cD U (dX (α:=Bool) T.sl138 U U sO sN) ?_;refine dC (z:=_) 2 T.size4 U U U sO sN U fun ho3=>?_;refine aS 8 [] ?_;refine gC 2 (Row 4 (ti.set m (true || false)) []) U Ta ?_;refine cJ 13 U (show _=Value.int .i64 ((m:Int) - 1) from U) ?_;refine cJ 11 U (show _=Value.slice (some ⟨b1,0,none⟩) (ti.set m (true || false)).length (e+1) by rw [aG]) ?_;refine eO ((m,ti.set m (true || false),ci++sW (2*(wh.length:Int)+(m:Int)) (2*(wh.length:Int)+(m:Int)) v,(a2,d2,j2))) ?_ ?_ U ⟨U,U,U,U,U,U,U,U,F9⟩ ⟨U,U,U,F9⟩
         · refine ⟨by omega,by rw [aG];exact hti,?_,?_,hoN,ho2⟩
           · rw [←hS1,hrs]
           rw [←hS2,hrs];simp
         show m<m+1;omega
       have hrs:=Cy (n:=wh.length) (hlowF (fun h=>by omega)) (hownF hO);refine aI 17 [1] ?_;refine oL 51 U tY ?_;refine aL 17 [] ?_;refine cD U (dX (α:=Bool) T.sl138 U U sO sN) ?_;refine cD U (fF 2 0 T.one4 U U sO sN U U) ?_;refine cD U (dD U) ?_;refine fO 66 U (Go.Sl.C4 _) ?_;apply bX 3 66 69 U;intro hg1;refine aC 5 [] ?_;exact iO 3 0 U U U U U;intro hg1;refine aC 3 [] ?_;exact iO 3 0 U U U U U;refine aL 18 [0] ?_;refine oL 82 U tY ?_;refine aL 28 [0,0,0] ?_;refine oL 127 U tY ?_;refine aC 3 [] ?_;refine cD U (dX (α:=Bool) T.sl138 U U sO sN) ?_;refine dC (z:=_) 2 T.size4 U U U sO sN U fun ho2=>?_;refine aS 8 [] ?_;refine gC 2 (Row 4 (ti.set m (false || false)) []) U Ta ?_;refine cJ 13 U (show _=Value.int .i64 ((m:Int) - 1) from U) ?_;refine cJ 11 U (show _=Value.slice (some ⟨b1,0,none⟩) (ti.set m (false || false)).length (e+1) by rw [aG]) ?_;refine eO ((m,ti.set m (false || false),ci,(o,dd,q))) ?_ ?_ U ⟨U,U,U,U,U,U,U,U,F9⟩ ⟨U,U,U,F9⟩
       · refine ⟨by omega,by rw [aG];exact hti,?_,?_,hoN,hoCi⟩
         · rw [←hS1,hrs]
         rw [←hS2,hrs];simp
       show m<m+1;omega
     have hm1e:((m:Int) - 1).toNat=m - 1:=sN;by_cases hL:ti[((m:Int) - 1).toNat]?.getD default=true∧u≠0
     · have hlow:=hlowT ⟨hm0,by rw [←hm1e];exact hL.1,hL.2⟩;by_cases hO:ti[(m:Int).toNat]?.getD default=true∧v≠0
       · have hOL:(ti[(m:Int).toNat]?.getD default=true∧v≠0)∧ti[((m:Int) - 1).toNat]?.getD default=true∧u≠0:=⟨hO,hL⟩
         have hrs:=Cy (n:=wh.length) hlow (hownT hO);rw [hrs] at hbd;have hb1:((ci++sW (3*(wh.length:Int)) (2*(wh.length:Int)+((m:Int) - 1)) u)++sW (2*(wh.length:Int)+(m:Int)) (2*(wh.length:Int)+(m:Int)) v).length≤1048576:=by
          simp only [Bool.and_self,jY,aB,jQ] at hbd;simp only [aB];omega
         have hb0:(ci++sW (3*(wh.length:Int)) (2*(wh.length:Int)+((m:Int) - 1)) u).length≤1048576:=by rw [aB] at hb1;omega
         refine aI 17 [1] ?_;refine kL 51 U tY ?_;refine aC 7 [] ?_;refine cD U (dX (α:=Bool) T.sl138 U U sO sN) ?_;refine qA U U ?_;refine cD U (fF 2 0 T.one4 U U sO sN U U) ?_;refine aC 2 [] ?_;refine fO 58 U (Go.Sl.C4 _) ?_;apply bX 3 58 61 U;intro hg1;refine aC 5 [] ?_;exact iO 3 0 U U U U U;intro hg1;refine aC 3 [] ?_;exact iO 3 0 U U U U U;refine aL 7 [] ?_;refine cD U (dX (α:=Bool) T.sl138 U U sO sN) ?_;refine cD U (fF 2 0 T.one4 U U sO sN U U) ?_;refine cD U (dD U) ?_;refine fO 66 U (Go.Sl.C4 _) ?_;apply bX 3 66 69 U;intro hg1;refine aC 5 [] ?_;exact iO 3 0 U U U U U;intro hg1;refine aC 3 [] ?_;exact iO 3 0 U U U U U;refine aL 13 [1] ?_;refine eD 0 U T.fn231 U (BD _ b _ _ _ sN) (sS ⟨U,F9⟩) ?_;refine aC 3 [] ?_;refine eD 0 U T.fn233 U (Ma _ b _ _ _ _ sN sN) (sS ⟨U,F9⟩) ?_;refine cD U (dD U) ?_;refine eL 0 U T.fn195 U (Gq _ b _ o dd ci q wa _ wc _ _ _ hoCi hcil) (sS ⟨U,U,F9⟩) fun v2 G2 Ho2 hle2 hp=>?_;obtain ⟨rfl,rfl,a2,d2,j2,ho2,rfl⟩:=hp;refine aL 8 [] ?_;refine kL 82 U tY ?_;refine aL 12 [1] ?_;refine eD 0 U T.fn233 U (Ma _ b _ _ _ _ sN sN) (sS ⟨U,F9⟩) ?_;refine aC 2 [] ?_;refine eD 0 U T.fn233 U (Ma _ b _ _ _ _ sN sN) (sS ⟨U,F9⟩) ?_;refine cD U (dD U) ?_;refine eL 0 U T.fn195 U (Gq _ b _ a2 d2 (ci++sW (3*(wh.length:Int)) (2*(wh.length:Int)+((m:Int) - 1)) u) j2 wa _ wc _ _ _ ho2 hb0) (sS ⟨U,U,F9⟩) fun v3 G3 Ho3 hle3 hp=>?_;obtain ⟨rfl,rfl,a3,d3,j3,ho3,rfl⟩:=hp;refine aL 6 [] ?_;refine eD 0 U T.fn233 U (Ma _ b _ _ _ _ sN sN) (sS ⟨U,F9⟩) ?_;refine aC 2 [] ?_;refine eD 0 U T.fn233 U (Ma _ b _ _ _ _ sN sN) (sS ⟨U,F9⟩) ?_;refine cD U (dD U) ?_;refine eD 0 U T.fn231 U (BD _ b _ _ _ sN) (sS ⟨U,F9⟩) ?_;refine eL 0 U T.fn228 U (Sw _ b _ a3 d3 ((ci++sW (3*(wh.length:Int)) (2*(wh.length:Int)+((m:Int) - 1)) u)++sW (2*(wh.length:Int)+(m:Int)) (2*(wh.length:Int)+(m:Int)) v) j3 wa _ wc _ _ _ _ _ ho3 hb1) (sS ⟨U,U,F9⟩) fun v4 G4 Ho4 hle4 hp=>?_;obtain ⟨rfl,rfl,a4,d4,j4,ho4,rfl⟩:=hp;refine aL 8 [] ?_;refine kL 127 U tY ?_;refine aC 2 [] ?_;refine cD U (dX (α:=Bool) T.sl138 U U sO sN) ?_;refine dC (z:=_) 2 T.size4 U U U sO sN U fun ho5=>?_;refine aS 8 [] ?_;refine gC 2 (Row 4 (ti.set m (true || true)) []) U Ta ?_;refine cJ 13 U (show _=Value.int .i64 ((m:Int) - 1) from U) ?_;refine cJ 11 U (show _=Value.slice (some ⟨b1,0,none⟩) (ti.set m (true || true)).length (e+1) by rw [aG]) ?_;refine eO ((m,ti.set m (true || true),((ci++sW (3*(wh.length:Int)) (2*(wh.length:Int)+((m:Int) - 1)) u)++sW (2*(wh.length:Int)+(m:Int)) (2*(wh.length:Int)+(m:Int)) v)++[(⟨3,2*(wh.length:Int)+(m:Int),2*(wh.length:Int)+(m:Int),3*(wh.length:Int),0⟩:Sl.Instr)],(a4,d4,j4))) ?_ ?_ U ⟨U,U,U,U,U,U,U,U,F9⟩ ⟨U,U,U,F9⟩
         · refine ⟨by omega,by rw [aG];exact hti,?_,?_,hoN,ho4⟩
           · rw [←hS1,hrs]
           rw [←hS2,hrs];simp
         show m<m+1;omega
       have hOL:¬((ti[(m:Int).toNat]?.getD default=true∧v≠0)∧ti[((m:Int) - 1).toNat]?.getD default=true∧u≠0):=fun h=>hO h.1;have hrs:=Cy (n:=wh.length) hlow (hownF hO);rw [hrs] at hbd;have hb0:(ci++sW (3*(wh.length:Int)) (2*(wh.length:Int)+((m:Int) - 1)) u).length≤1048576:=by
        simp only [jY,aB] at hbd;simp only [aB];omega
       refine aI 17 [1] ?_;refine kL 51 U tY ?_;refine aC 7 [] ?_;refine cD U (dX (α:=Bool) T.sl138 U U sO sN) ?_;refine qA U U ?_;refine cD U (fF 2 0 T.one4 U U sO sN U U) ?_;refine aC 2 [] ?_;refine fO 58 U (Go.Sl.C4 _) ?_;apply bX 3 58 61 U;intro hg1;refine aC 5 [] ?_;exact iO 3 0 U U U U U;intro hg1;refine aC 3 [] ?_;exact iO 3 0 U U U U U;refine aL 7 [] ?_;refine cD U (dX (α:=Bool) T.sl138 U U sO sN) ?_;refine cD U (fF 2 0 T.one4 U U sO sN U U) ?_;refine cD U (dD U) ?_;refine fO 66 U (Go.Sl.C4 _) ?_;apply bX 3 66 69 U;intro hg1;refine aC 5 [] ?_;exact iO 3 0 U U U U U;intro hg1;refine aC 3 [] ?_;exact iO 3 0 U U U U U;refine aL 13 [1] ?_;refine eD 0 U T.fn231 U (BD _ b _ _ _ sN) (sS ⟨U,F9⟩) ?_;refine aC 3 [] ?_;refine eD 0 U T.fn233 U (Ma _ b _ _ _ _ sN sN) (sS ⟨U,F9⟩) ?_;refine cD U (dD U) ?_;refine eL 0 U T.fn195 U (Gq _ b _ o dd ci q wa _ wc _ _ _ hoCi hcil) (sS ⟨U,U,F9⟩) fun v2 G2 Ho2 hle2 hp=>?_;obtain ⟨rfl,rfl,a2,d2,j2,ho2,rfl⟩:=hp;refine aL 8 [] ?_;refine oL 82 U tY ?_;refine aL 24 [0,0,1] ?_;refine eD 0 U T.fn233 U (Ma _ b _ _ _ _ sN sN) (sS ⟨U,F9⟩) ?_;refine cD U (dD U) ?_;refine eD 0 U T.fn231 U (BD _ b _ _ _ sN) (sS ⟨U,F9⟩) ?_;refine eL 0 U T.fn195 U (Gq _ b _ a2 d2 (ci++sW (3*(wh.length:Int)) (2*(wh.length:Int)+((m:Int) - 1)) u) j2 wa _ wc _ _ _ ho2 hb0) (sS ⟨U,U,F9⟩) fun v3 G3 Ho3 hle3 hp=>?_;obtain ⟨rfl,rfl,a3,d3,j3,ho3,rfl⟩:=hp;refine aL 8 [] ?_;refine oL 127 U tY ?_;refine aC 3 [] ?_;refine cD U (dX (α:=Bool) T.sl138 U U sO sN) ?_;refine dC (z:=_) 2 T.size4 U U U sO sN U fun ho4=>?_;refine aS 8 [] ?_;refine gC 2 (Row 4 (ti.set m (false || true)) []) U Ta ?_;refine cJ 13 U (show _=Value.int .i64 ((m:Int) - 1) from U) ?_;refine cJ 11 U (show _=Value.slice (some ⟨b1,0,none⟩) (ti.set m (false || true)).length (e+1) by rw [aG]) ?_;refine eO ((m,ti.set m (false || true),(ci++sW (3*(wh.length:Int)) (2*(wh.length:Int)+((m:Int) - 1)) u)++sW (2*(wh.length:Int)+(m:Int)) (3*(wh.length:Int)) 1,(a3,d3,j3))) ?_ ?_ U ⟨U,U,U,U,U,U,U,U,F9⟩ ⟨U,U,U,F9⟩
       · refine ⟨by omega,by rw [aG];exact hti,?_,?_,hoN,ho3⟩
         · rw [←hS1,hrs]
         rw [←hS2,hrs];simp
       show m<m+1;omega
     have hOL:¬((ti[(m:Int).toNat]?.getD default=true∧v≠0)∧ti[((m:Int) - 1).toNat]?.getD default=true∧u≠0):=fun h=>hL h.2;have hlow:=hlowF (fun h=>hL ⟨by rw [hm1e];exact h.2.1,h.2.2⟩);by_cases hO:ti[(m:Int).toNat]?.getD default=true∧v≠0
     · have hrs:=Cy (n:=wh.length) hlow (hownT hO);rw [hrs] at hbd;refine aI 17 [1] ?_;refine kL 51 U tY ?_;refine aC 7 [] ?_;refine cD U (dX (α:=Bool) T.sl138 U U sO sN) ?_;refine qA U U ?_;refine cD U (fF 2 0 T.one4 U U sO sN U U) ?_;refine aC 2 [] ?_;refine fO 58 U (Go.Sl.C4 _) ?_;apply bX 3 58 61 U;intro hg1;refine aC 5 [] ?_;exact iO 3 0 U U U U U;intro hg1;refine aC 3 [] ?_;exact iO 3 0 U U U U U;refine aL 7 [] ?_;refine cD U (dX (α:=Bool) T.sl138 U U sO sN) ?_;refine cD U (fF 2 0 T.one4 U U sO sN U U) ?_;refine cD U (dD U) ?_;refine fO 66 U (Go.Sl.C4 _) ?_;apply bX 3 66 69 U;intro hg1;refine aC 5 [] ?_;exact iO 3 0 U U U U U;intro hg1;refine aC 3 [] ?_;exact iO 3 0 U U U U U;refine aL 18 [0] ?_;refine kL 82 U tY ?_;refine aL 18 [0,1] ?_;refine eD 0 U T.fn233 U (Ma _ b _ _ _ _ sN sN) (sS ⟨U,F9⟩) ?_;refine aC 2 [] ?_;refine eD 0 U T.fn233 U (Ma _ b _ _ _ _ sN sN) (sS ⟨U,F9⟩) ?_;refine cD U (dD U) ?_;refine eL 0 U T.fn195 U (Gq _ b _ o dd ci q wa _ wc _ _ _ hoCi hcil) (sS ⟨U,U,F9⟩) fun v2 G2 Ho2 hle2 hp=>?_;obtain ⟨rfl,rfl,a2,d2,j2,ho2,rfl⟩:=hp;refine aL 8 [] ?_;refine kL 127 U tY ?_;refine aC 2 [] ?_;refine cD U (dX (α:=Bool) T.sl138 U U sO sN) ?_;refine dC (z:=_) 2 T.size4 U U U sO sN U fun ho3=>?_;refine aS 8 [] ?_;refine gC 2 (Row 4 (ti.set m (true || false)) []) U Ta ?_;refine cJ 13 U (show _=Value.int .i64 ((m:Int) - 1) from U) ?_;refine cJ 11 U (show _=Value.slice (some ⟨b1,0,none⟩) (ti.set m (true || false)).length (e+1) by rw [aG]) ?_;refine eO ((m,ti.set m (true || false),ci++sW (2*(wh.length:Int)+(m:Int)) (2*(wh.length:Int)+(m:Int)) v,(a2,d2,j2))) ?_ ?_ U ⟨U,U,U,U,U,U,U,U,F9⟩ ⟨U,U,U,F9⟩
       · refine ⟨by omega,by rw [aG];exact hti,?_,?_,hoN,ho2⟩
         · rw [←hS1,hrs]
         rw [←hS2,hrs];simp
       show m<m+1;omega
     have hrs:=Cy (n:=wh.length) hlow (hownF hO);refine aI 17 [1] ?_;refine kL 51 U tY ?_;refine aC 7 [] ?_;refine cD U (dX (α:=Bool) T.sl138 U U sO sN) ?_;refine qA U U ?_;refine cD U (fF 2 0 T.one4 U U sO sN U U) ?_;refine aC 2 [] ?_;refine fO 58 U (Go.Sl.C4 _) ?_;apply bX 3 58 61 U;intro hg1;refine aC 5 [] ?_;exact iO 3 0 U U U U U;intro hg1;refine aC 3 [] ?_;exact iO 3 0 U U U U U;refine aL 7 [] ?_;refine cD U (dX (α:=Bool) T.sl138 U U sO sN) ?_;refine cD U (fF 2 0 T.one4 U U sO sN U U) ?_;refine cD U (dD U) ?_;refine fO 66 U (Go.Sl.C4 _) ?_;apply bX 3 66 69 U;intro hg1;refine aC 5 [] ?_;exact iO 3 0 U U U U U;intro hg1;refine aC 3 [] ?_;exact iO 3 0 U U U U U;refine aL 18 [0] ?_;refine oL 82 U tY ?_;refine aL 28 [0,0,0] ?_;refine oL 127 U tY ?_;refine aC 3 [] ?_;refine cD U (dX (α:=Bool) T.sl138 U U sO sN) ?_;refine dC (z:=_) 2 T.size4 U U U sO sN U fun ho2=>?_;refine aS 8 [] ?_;refine gC 2 (Row 4 (ti.set m (false || false)) []) U Ta ?_;refine cJ 13 U (show _=Value.int .i64 ((m:Int) - 1) from U) ?_;refine cJ 11 U (show _=Value.slice (some ⟨b1,0,none⟩) (ti.set m (false || false)).length (e+1) by rw [aG]) ?_;refine eO ((m,ti.set m (false || false),ci,(o,dd,q))) ?_ ?_ U ⟨U,U,U,U,U,U,U,U,F9⟩ ⟨U,U,U,F9⟩
     · refine ⟨by omega,by rw [aG];exact hti,?_,?_,hoN,hoCi⟩
       · rw [←hS1,hrs]
       rw [←hS2,hrs];simp
     show m<m+1;omega
 have hde:d=e+1:=sN;subst hde;rw [iH] at hT1 hT2;have hT1:th=Th:=hT1;have hT2:cd=Tg:=by rw [←hT2];exact (aY _).symm
 subst hT1 hT2;refine bE 21 [0] ?_;refine cH zR (Ho:=[(0,some b,.cells #[.int .i64 wh.length,.slice o cd.length dd,.slice wa wh.length wc] 267),(1,o.map (·.block),Row 91 cd q),(2,some b1,Row 4 th [])]) U (.tmp U) ⟨U,U,U,F9⟩ ?_;exact ⟨U,o,dd,q,th,cd,b1,U,U,by rw [hth],hoC,by rw [hth];exact hoT,U⟩
def WR (n:Int) (p:R2) (e m:Nat):List Sl.Instr:=if m=e+1 then Jz n p e else Ww n p m
theorem BE (n:Int) (th:List Bool) {t:Nat} (h:t<th.length):Cl n (th.drop t) t=(if th[((t:Nat):Int).toNat]?.getD default=true then [(⟨3,n+t,n+t,2*n+t,0⟩:Sl.Instr)] else [])++Cl n (th.drop (t+1)) (t+1):=by
 rw [dM h,aE,aA h];rfl
theorem km (G:A3) (b:Nat) (ac:Option Addr) (cc:Nat) (code:List Sl.Instr) (j:List Value) (wa:Option Addr) (wc:Nat) (wh:List R2) (k:Int) (e:Nat) (ho:A4 ac cc code j) (hw:Arr G wa wh)
 (hwl:wh.length≤15) (hk:0≤k∧k<wh.length) (he1:1≤e) (he:e<wh.length) (hok:Nz (wh[k.toNat]?.getD default)) (hl:(code++xS wh.length wh k e).length≤1048576) :
 Does Tryz.prog 197 [.pointer (some ⟨b,0,none⟩),.int .i64 k,.int .i64 e] G [(0,some b,.cells #[.int .i64 wh.length,.slice ac code.length cc,.slice wa wh.length wc] 267),(1,ac.map (·.block),Row 91 code j)]
  (fun v G' Ho=>v=.tuple #[]∧G'=G∧∃ (a':Option Addr) (c':Nat) (j':List Value),A4 a' c' (code++xS wh.length wh k e) j'∧Ho=[(0,some b,.cells #[.int .i64 wh.length,.slice a' (code++xS wh.length wh k e).length c',.slice wa wh.length wc] 267),(1,a'.map (·.block),Row 91 (code++xS wh.length wh k e) j')]):=by
 have hl0:code.length≤1048576:=by rw [aB] at hl;omega
 obtain ⟨hnk,hzk⟩:=hok;have hnk2:=hnk;unfold near at hnk2;refine gF Tryz.func197 U Tryz.ntmps197 U fun w=>?_;refine aI 7 [0] ?_;refine cD U (iI (α:=R2) T.sl22 U U sO sN) ?_;refine cD U (gH T.agg52 U (lH sO sN) U) ?_;refine aO 2 U T.zero52 fun b1=>?_;refine bB 11 [2] ?_;generalize hp:wh[k.toNat]?.getD default=p at *;have hbI:xS wh.length wh k e=Jz wh.length p e++(zP wh.length (bezS p.a p.b) (bezT p.a p.b) k e++Cl wh.length (xZ wh.length (bezS p.a p.b) (bezT p.a p.b) e) 0):=by unfold xS uN;rw [hp]
 rw [hbI] at hl;have hlA:(code++Jz wh.length p e).length≤1048576:=by rw [←aR,aB] at hl;omega
 refine iV 7 U (show _=Value.int .i64 (((e+1:Nat):Int) - 1) by congr 1;omega) ?_;refine fT (ι:=Nat×List Sl.Instr×(Option Addr×Nat×List Value)) (fun (m,cd,(o,d,q))=>([(7,.int .i64 ((m:Int) - 1)),(1,.int .i64 k),(6,Go.Value.pointer (Option.some (Go.Addr.mk b1 0 Option.none))),(0,Go.Value.pointer (Option.some (Go.Addr.mk b 0 Option.none))),(2,Go.Value.int Go.IntKind.i64 (↑e:Int))],[(0,some b,.cells #[.int .i64 wh.length,.slice o cd.length d,.slice wa wh.length wc] 267),(1,o.map (·.block),Row 91 cd q),(2,Option.some b1,Go.Obj.cells (List.toArray (Go.Sl.A2.enc p)) 52)])) (fun (m,cd,(o,d,q))=>m≤e+1∧cd++WR wh.length p e m=code++Jz wh.length p e∧A4 o d cd q) (fun (m,cd,(o,d,q))=>m) ((e+1,code,(ac,cc,j))) (⟨aH _,by unfold WR;rw [aF rfl],ho⟩) ⟨U,U,U,U,U,F9⟩ ⟨U,U,U,F9⟩ fun ⟨m,cd,(o,d,q)⟩=>fun hk=>?_;obtain ⟨hm1,hm2,hm3⟩:=hk;have hcl:cd.length≤1048576:=by rw [←hm2,aB] at hlA;omega
 rcases gD m with hm0 | hm0
 · have hm2:cd=code++Jz wh.length p e:=by
    rw [←hm2];unfold WR;rw [aD (by omega),hm0];exact (aY _).symm
   have hl1:(cd++zP wh.length (bezS (wh[k.toNat]?.getD default).a (wh[k.toNat]?.getD default).b) (bezT (wh[k.toNat]?.getD default).a (wh[k.toNat]?.getD default).b) k e).length≤1048576:=by
    rw [hp,hm2,aB,aB];rw [aB,aB,aB] at hl;omega
   refine aI 18 [0] ?_;refine eL 0 U T.fn232 U (kl _ b o d cd q wa wc wh k e hm3 sO hwl hk he (by rw [hp];exact ⟨hnk,hzk⟩) hl1) (sS ⟨U,U,F9⟩) fun v1 G1 Ho1 hle1 hp=>?_;obtain ⟨rfl,ra1,rd1,rj1,th1,rc1,tb1,hth1,hrc1,rfl,hro1,hto1,rfl⟩:=hp;refine bB 5 [] ?_;rw [hp] at hth1 hrc1;rw [hm2] at hrc1;have hthl:th1.length=e+1:=by rw [hth1,zV]
   rw [←aR,←aR,←hrc1,←hth1] at hl;refine fT (ι:=Nat×List Sl.Instr×(Option Addr×Nat×List Value)) (fun (t,ce,(o,d,q))=>([(76,.int .i64 (t:Int)),(75,Go.Value.int Go.IntKind.i64 (↑(List.length th1):Int)),(74,Go.Value.slice (Option.some (Go.Addr.mk tb1 0 Option.none)) (List.length th1) (List.length th1)),(0,Go.Value.pointer (Option.some (Go.Addr.mk b 0 Option.none)))],[(0,some b,.cells #[.int .i64 wh.length,.slice o ce.length d,.slice wa wh.length wc] 267),(1,o.map (·.block),Row 91 ce q),(2,Option.some tb1,Go.Sl.Row (α:=Bool) 4 (th1) ([]))])) (fun (t,ce,(o,d,q))=>t≤th1.length∧ce++Cl wh.length (th1.drop t) t=rc1++Cl wh.length th1 0∧A4 o d ce q) (fun (t,ce,(o,d,q))=>th1.length - t) ((0,rc1,(ra1,rd1,rj1))) (⟨aM _,U,hro1⟩) ⟨U,U,U,U,F9⟩ ⟨U,U,U,F9⟩ fun ⟨t,ce,(o,d,q)⟩=>fun hk=>?_;obtain ⟨ht1,ht2,ht3⟩:=hk;have hel:ce.length≤1048576:=by rw [←ht2,aB] at hl;omega
   rcases aK t th1.length with hte | hte
   · rw [BE _ _ hte] at ht2;refine aI 14 [1] ?_;refine cD U (dX (α:=Bool) T.sl138 U U sO sN) ?_;refine cD U (fF 2 0 T.one4 U U sO sN U U) ?_;refine bB 9 [] ?_;refine lJ U (fun hc1=>?_) fun hc1=>?_;refine aI 4 [] ?_;refine eD 0 U T.fn196 U (Lz _ b _ _ _ _ sN sN) (sS ⟨U,F9⟩) ?_;refine aC 2 [] ?_;refine eD 0 U T.fn196 U (Lz _ b _ _ _ _ sN sN) (sS ⟨U,F9⟩) ?_;refine aC 2 [] ?_;refine eD 0 U T.fn233 U (Ma _ b _ _ _ _ sN sN) (sS ⟨U,F9⟩) ?_;refine eL 0 U T.fn228 U (Sw _ b _ o d ce q wa _ wc _ _ _ _ _ ht3 hel) (sS ⟨U,U,F9⟩) fun v2 G2 Ho2 hle2 hp=>?_;obtain ⟨rfl,rfl,a2,d2,j2,ho2,rfl⟩:=hp;refine aS 7 [] ?_;rotate_left;refine bE 7 [] ?_;rotate_left
     · rw [aF hc1] at ht2;refine cJ 76 U (show _=Value.int .i64 ((t+1:Nat):Int) from U) ?_;refine eO ((t+1,_,(a2,d2,j2))) ?_ ?_ U ⟨U,U,U,U,F9⟩ ⟨U,U,U,F9⟩
       · refine ⟨hte,?_,ho2⟩;rw [←ht2];simp only [aR]
       show th1.length - (t+1)<th1.length - t;omega
     rw [aD (by rw [hc1];decide),fV] at ht2;refine cJ 76 U (show _=Value.int .i64 ((t+1:Nat):Int) from U) ?_;refine eO ((t+1,ce,(o,d,q))) ?_ ?_ U ⟨U,U,U,U,F9⟩ ⟨U,U,U,F9⟩
     · exact ⟨hte,ht2,ht3⟩
     show th1.length - (t+1)<th1.length - t;omega
   have hte:t=th1.length:=sN;have ht2:ce=rc1++Cl wh.length th1 0:=by rw [←ht2,hte,nU];exact (aY _).symm
   refine bE 11 [0] ?_;have hce:ce=code++xS wh.length wh k e:=by rw [ht2,hrc1,hbI,hth1];simp only [aR]
   rw [hce] at ht3;refine kD zR (Ho:=[(0,some b,.cells #[.int .i64 wh.length,.slice o (code++xS wh.length wh k e).length d,.slice wa wh.length wc] 267),(1,o.map (·.block),Row 91 (code++xS wh.length wh k e) q)]) U ⟨by rw [←hce];rfl,by rw [←hce];rfl,F9⟩ ?_;exact ⟨U,U,o,d,q,ht3,U⟩
 rcases aK e m with hme | hme
 · have hme:m=e+1:=sN;have hm2:cd++(sW (wh.length+e) (wh.length+((e:Int) - 1)) (-p.b)++Ww wh.length p e)=code++Jz wh.length p e:=by
    rw [←hm2];unfold WR;rw [aF hme];rfl
   refine iV 7 U (show _=Value.int .i64 (e:Int) by congr 1;omega) ?_;refine bI 22 [1,1] ?_;refine gM [2,1,0] [(1,11),(0,11)] T.mixed U ?_;refine eY 0 [] sR U U (dD U) ?_;refine eY 1 [] sR U U (dD U) ?_;refine eY 2 [] sR U U (dD U) ?_;refine eY 4 [] sR U U (dD U) ?_;refine eY 5 [] sR U U (dD U) ?_;refine eY 6 [] sR U U (Qy.sub U U sN) ?_;refine eY 8 [] sR U U (fX T.fa52_1 U) ?_;refine eY 9 [2] sR U U (kU 2 T.one3 U U U) ?_;refine eY 10 [] sR U U (qX U sN) ?_;refine jE 3 ⟨U,U,U,F9⟩ wJ sR U ?_;refine eD 0 U T.fn196 U (Lz _ b _ _ _ _ sN sN) (sS ⟨U,F9⟩) ?_;refine bC ?_;refine jE 7 ⟨U,U,U,F9⟩ wJ sR U ?_;refine eD 0 U T.fn196 U (Lz _ b _ _ _ _ sN sN) (sS ⟨U,F9⟩) ?_;refine bC ?_;refine jE 11 ⟨U,U,U,F9⟩ wJ sR U ?_;refine eL 0 U T.fn195 U (Gq _ b _ o d cd q wa _ wc _ _ _ hm3 hcl) (sS ⟨U,U,F9⟩) fun v1 G1 Ho1 hle1 hp=>?_;obtain ⟨rfl,rfl,a1,d1,j1,ho1,rfl⟩:=hp;refine bC ?_;refine iN sR ⟨U,F9⟩ wJ ?_;refine eE 10 [] ?_;refine cJ 7 U (show _=Value.int .i64 ((e:Int) - 1) from U) ?_;refine eO ((e,_,(a1,d1,j1))) ?_ ?_ U ⟨U,U,U,U,U,F9⟩ ⟨U,U,U,F9⟩
   · refine ⟨by omega,?_,ho1⟩;rw [←hm2];unfold WR;rw [aD (by omega),aR]
   show e<m;omega
 obtain ⟨i,rfl⟩:∃ i,m=i+1:=⟨m - 1,by omega⟩
 refine iV 7 U (show _=Value.int .i64 (i:Int) by congr 1;omega) ?_;have hm2:cd++Ww wh.length p (i+1)=code++Jz wh.length p e:=by rw [←hm2];unfold WR;rw [aD (by omega)]
 unfold Ww at hm2;rcases gD i with hi0 | hi0
 · rw [aD (by omega),aD (by omega)] at hm2;refine bI 34 [1,0,0] ?_;refine gM [2,1,0] [(1,9),(0,9)] T.mixed U ?_;refine eY 0 [] sR U U (dD U) ?_;refine eY 1 [] sR U U (dD U) ?_;refine eY 2 [] sR U U (dD U) ?_;refine eY 4 [] sR U U (dD U) ?_;refine eY 5 [] sR U U (dD U) ?_;refine eY 7 [] sR U U (fX T.fa52_0 U) ?_;refine eY 8 [2] sR U U (kU 2 T.one3 U U U) ?_;refine jE 3 ⟨U,U,U,F9⟩ wJ sR U ?_;refine eD 0 U T.fn196 U (Lz _ b _ _ _ _ sN sN) (sS ⟨U,F9⟩) ?_;refine bC ?_;refine jE 6 ⟨U,U,U,F9⟩ wJ sR U ?_;refine eD 0 U T.fn196 U (Lz _ b _ _ _ _ sN sN) (sS ⟨U,F9⟩) ?_;refine bC ?_;refine jE 9 ⟨U,U,U,F9⟩ wJ sR U ?_;refine eL 0 U T.fn195 U (Gq _ b _ o d cd q wa _ wc _ _ _ hm3 hcl) (sS ⟨U,U,F9⟩) fun v1 G1 Ho1 hle1 hp=>?_;obtain ⟨rfl,rfl,a1,d1,j1,ho1,rfl⟩:=hp;refine bC ?_;refine iN sR ⟨U,F9⟩ wJ ?_;refine eE 16 [0] ?_;refine cJ 7 U (show _=Value.int .i64 ((i:Int) - 1) from U) ?_;refine eO ((i,_,(a1,d1,j1))) ?_ ?_ U ⟨U,U,U,U,U,F9⟩ ⟨U,U,U,F9⟩
   · refine ⟨by omega,?_,ho1⟩;rw [←hm2];unfold WR;rw [aD (by omega)];simp only [aR,fV]
   show i<i+1;omega
 rw [aF hi0,aF hi0] at hm2;have hb1:((cd++sW (3*(wh.length:Int)) ((wh.length:Int)+((i:Int) - 1)) p.b)++sW ((wh.length:Int)+(i:Int)) ((wh.length:Int)+(i:Int)) p.a).length≤1048576:=by
  rw [←hm2] at hlA;simp only [aB] at hlA;simp only [aB];omega
 have hb0:(cd++sW (3*(wh.length:Int)) ((wh.length:Int)+((i:Int) - 1)) p.b).length≤1048576:=by rw [aB] at hb1;omega
 refine bI 31 [1,0,1] ?_;refine gM [2,1,0] [(1,9),(0,9)] T.mixed U ?_;refine eY 0 [] sR U U (dD U) ?_;refine eY 1 [] sR U U (dD U) ?_;refine eY 3 [] sR U U (dD U) ?_;refine eY 4 [] sR U U (dD U) ?_;refine eY 5 [] sR U U (Qy.sub U U sN) ?_;refine eY 7 [] sR U U (fX T.fa52_1 U) ?_;refine eY 8 [2] sR U U (kU 2 T.one3 U U U) ?_;refine jE 2 ⟨U,U,U,F9⟩ wJ sR U ?_;refine eD 0 U T.fn231 U (BD _ b _ _ _ sN) (sS ⟨U,F9⟩) ?_;refine bC ?_;refine jE 6 ⟨U,U,U,F9⟩ wJ sR U ?_;refine eD 0 U T.fn196 U (Lz _ b _ _ _ _ sN sN) (sS ⟨U,F9⟩) ?_;refine bC ?_;refine jE 9 ⟨U,U,U,F9⟩ wJ sR U ?_;refine eL 0 U T.fn195 U (Gq _ b _ o d cd q wa _ wc _ _ _ hm3 hcl) (sS ⟨U,U,F9⟩) fun v1 G1 Ho1 hle1 hp=>?_;obtain ⟨rfl,rfl,a1,d1,j1,ho1,rfl⟩:=hp;refine bC ?_;refine iN sR ⟨U,F9⟩ wJ ?_;refine lS 2 [] ?_;refine gM [2,1,0] [(1,9),(0,9)] T.mixed U ?_;refine eY 0 [] sR U U (dD U) ?_;refine eY 1 [] sR U U (dD U) ?_;refine eY 2 [] sR U U (dD U) ?_;refine eY 4 [] sR U U (dD U) ?_;refine eY 5 [] sR U U (dD U) ?_;refine eY 7 [] sR U U (fX T.fa52_0 U) ?_;refine eY 8 [2] sR U U (kU 2 T.one3 U U U) ?_;refine jE 3 ⟨U,U,U,F9⟩ wJ sR U ?_;refine eD 0 U T.fn196 U (Lz _ b _ _ _ _ sN sN) (sS ⟨U,F9⟩) ?_;refine bC ?_;refine jE 6 ⟨U,U,U,F9⟩ wJ sR U ?_;refine eD 0 U T.fn196 U (Lz _ b _ _ _ _ sN sN) (sS ⟨U,F9⟩) ?_;refine bC ?_;refine jE 9 ⟨U,U,U,F9⟩ wJ sR U ?_;refine eL 0 U T.fn195 U (Gq _ b _ a1 d1 (cd++sW (3*(wh.length:Int)) ((wh.length:Int)+((i:Int) - 1)) p.b) j1 wa _ wc _ _ _ ho1 hb0) (sS ⟨U,U,F9⟩) fun v2 G2 Ho2 hle2 hp=>?_;obtain ⟨rfl,rfl,a2,d2,j2,ho2,rfl⟩:=hp;refine bC ?_;refine iN sR ⟨U,F9⟩ wJ ?_;refine lQ 12 [1] ?_;refine eD 0 U T.fn196 U (Lz _ b _ _ _ _ sN sN) (sS ⟨U,F9⟩) ?_;refine aC 2 [] ?_;refine eD 0 U T.fn196 U (Lz _ b _ _ _ _ sN sN) (sS ⟨U,F9⟩) ?_;refine cD U (dD U) ?_;refine eD 0 U T.fn231 U (BD _ b _ _ _ sN) (sS ⟨U,F9⟩) ?_;refine eL 0 U T.fn228 U (Sw _ b _ a2 d2 ((cd++sW (3*(wh.length:Int)) ((wh.length:Int)+((i:Int) - 1)) p.b)++sW ((wh.length:Int)+(i:Int)) ((wh.length:Int)+(i:Int)) p.a) j2 wa _ wc _ _ _ _ _ ho2 hb1) (sS ⟨U,U,F9⟩) fun v3 G3 Ho3 hle3 hp=>?_;obtain ⟨rfl,rfl,a3,d3,j3,ho3,rfl⟩:=hp;refine aS 8 [] ?_;refine cJ 7 U (show _=Value.int .i64 ((i:Int) - 1) from U) ?_;refine eO ((i,_,(a3,d3,j3))) ?_ ?_ U ⟨U,U,U,U,U,F9⟩ ⟨U,U,U,F9⟩
 · refine ⟨by omega,?_,ho3⟩;rw [←hm2];unfold WR;rw [aD (by omega)];simp only [aR]
 show i<i+1;omega
theorem Qs (n:Int) (wh:List R2):∀ (o:List Int) (t:Nat),(vK n wh (o.drop t)).length≤(vK n wh o).length
 | [],t=>by rw [List.drop_nil];exact aH _
 | k :: o,0=>aH _
 | [k],t+1=>by rw [oQ,List.drop_nil];exact aM _
 | k :: i :: left,t+1=>by
   rw [oQ];refine bO (Qs n wh (i :: left) t) ?_;show _≤(vK n wh (i :: left)++_).length;rw [aB];omega
theorem Xb (n:Int) (wh:List R2) (k:Int) {rest:List Int} (h:1≤rest.length):vK n wh (k :: rest)=vK n wh rest++xS n wh k rest.length:=by
 cases rest with
 | nil=>simp at h
 | cons i left=>rfl
theorem PR {α:Type} [A2 α] {G:A3} {a:Option Addr} {c:Nat} {l:List α} (h:Arr G a l) (n:Nat) (hn:n≤l.length) (hc:l.length≤c):Arr G (C7 a c n (A2.sz α)) (l.drop n):=by
 have h1:=F4.sub h hn hc;unfold Arr;have e:tN l=tN (l.take n)++tN (l.drop n):=by rw [←wG,fQ]
 have e2:(tN l).drop (n*A2.sz α)=tN (l.drop n):=by
  rw [e,List.drop_left' (by rw [tG,bG,cY hn])]
 rw [←e2,gK];exact h1
def Fi (n t:Nat):List Int:=(List.range t).map fun j:Nat=>(n:Int)+j
theorem KA (n t:Nat):(Fi n t).length=t:=by unfold Fi;rw [aN,cC]
theorem Ig (n t:Nat):Fi n (t+1)=Fi n t++[(n:Int)+t]:=by unfold Fi;rw [oJ,jW];rfl
theorem dj (G:A3) (n b:Nat) (ac:Option Addr) (cc:Nat) (code:List Sl.Instr) (j:List Value) (wa:Option Addr) (wc:Nat) (wh:List R2) (k:Int) (la:Option Addr) (lc m:Nat) (left:List Int) (e:Nat) (hn:wh.length=n) (hm:left.length=m) (ho:A4 ac cc code j) (hw:Arr G wa wh) (hla:Arr G la left)
 (hwl:n≤15) (hk:0≤k∧k<n) (hll:m≤15) (hleft:∀ i∈left,0≤i∧i<n) (he:e≤14) (hok:∀ i,i<n→Nz (wh[i]?.getD default)) (hl:(code++yU n wh k e left).length≤1048576) :
 Does Tryz.prog 194 [.pointer (some ⟨b,0,none⟩),.int .i64 k,.slice la m lc,.int .i64 e] G [(0,some b,.cells #[.int .i64 n,.slice ac code.length cc,.slice wa n wc] 267),(1,ac.map (·.block),Row 91 code j)]
  (fun v G' Ho=>v=.tuple #[]∧G'=G∧∃ (a':Option Addr) (c':Nat) (j':List Value),A4 a' c' (code++yU n wh k e left) j'∧Ho=[(0,some b,.cells #[.int .i64 n,.slice a' (code++yU n wh k e left).length c',.slice wa n wc] 267),(1,a'.map (·.block),Row 91 (code++yU n wh k e left) j')]):=by
 subst hn hm;exact kj G b ac cc code j wa wc wh k la lc left e ho hw hla hwl hk hll (fun i hi=>hleft _ (by rw [aA hi];exact bT _)) he hok hl
theorem dk (G:A3) (n b:Nat) (ac:Option Addr) (cc:Nat) (code:List Sl.Instr) (j:List Value) (wa:Option Addr) (wc:Nat) (wh:List R2) (k:Int) (e:Nat) (hn:wh.length=n) (ho:A4 ac cc code j) (hw:Arr G wa wh)
 (hwl:n≤15) (hk:0≤k∧k<n) (he1:1≤e) (he:e<n) (hok:Nz (wh[k.toNat]?.getD default)) (hl:(code++xS n wh k e).length≤1048576) :
 Does Tryz.prog 197 [.pointer (some ⟨b,0,none⟩),.int .i64 k,.int .i64 e] G [(0,some b,.cells #[.int .i64 n,.slice ac code.length cc,.slice wa n wc] 267),(1,ac.map (·.block),Row 91 code j)]
  (fun v G' Ho=>v=.tuple #[]∧G'=G∧∃ (a':Option Addr) (c':Nat) (j':List Value),A4 a' c' (code++xS n wh k e) j'∧Ho=[(0,some b,.cells #[.int .i64 n,.slice a' (code++xS n wh k e).length c',.slice wa n wc] 267),(1,a'.map (·.block),Row 91 (code++xS n wh k e) j')]):=by
 subst hn;exact km G b ac cc code j wa wc wh k e ho hw hwl hk he1 he hok hl
theorem kn (G:A3) (a:Option Addr) (c:Nat) (l:List R2) (oa:Option Addr) (oc:Nat) (o:List Int) (ha:Arr G a l) (hoa:Arr G oa o) (hac:l.length≤c) (hocc:o.length≤oc) (hR:tW l) (hO:Bk o l.length) :
 Does Tryz.prog 147 [.slice a l.length c,.slice oa o.length oc] G [] (fun v G' Ho=>∃ (bc bo:Option Addr) (dc do_:Nat) (j1 j2:List Value),v=.agg #[.int .i64 (madeP l o).ins,.int .i64 (madeP l o).regs,.slice bc (madeP l o).code.length dc,.slice bo (madeP l o).outs.length do_]∧A4 bc dc (madeP l o).code j1∧A4 bo do_ (madeP l o).outs j2∧
  Ho=[(0,bc.map (·.block),Row 91 (madeP l o).code j1),(1,bo.map (·.block),Row 3 (madeP l o).outs j2)]):=by
 have hgood:=Lu hR hO;have hok:∀ i,i<l.length→Nz (l[i]?.getD default):=hR.2.2.1;have hl1:=hR.1;have hl15:=hR.2.1;obtain ⟨o1,o2,o3⟩:=hO;refine gF Tryz.func147 U Tryz.ntmps147 U fun w=>?_;refine aI 2 [] ?_;refine aO 0 U T.zero26 fun b1=>?_;refine aL 12 [] ?_;refine cD U (bP (cs:=[_,_,_]) T.st267 U U U) ?_;refine nB 1 U U U fun b2=>?_;refine bB 12 [] ?_;refine eJ 2 (Row 91 ([]:List Sl.Instr) []) (eJ 3 (Row 52 ([]:List R2) []) ?_);generalize hN:Ao (l.length - 1) l 0=N at *;have hNl:N.length≤16384:=by
  have:=hgood.len;unfold Kb at this;rw [hN,aB] at this;omega
 refine fT (ι:=Nat×List Sl.Instr×(Option Addr×Nat×List Value)×List R2×(Option Addr×Nat×List Value)) (fun (k,cd,(u,d,q),wh,(wa,wd,wq))=>([(25,.int .i64 (k:Int)),(5,.int .i64 l.length),(6,.pointer (some ⟨b2,0,none⟩)),(1,.slice oa o.length oc),(24,Go.Value.int Go.IntKind.i64 (↑(List.length l):Int)),(23,Go.Value.slice a (List.length l) c),(4,Go.Value.pointer (Option.some (Go.Addr.mk b1 0 Option.none)))],[(1,some b2,.cells #[.int .i64 l.length,.slice u cd.length d,.slice wa wh.length wd] 267),(2,u.map (·.block),Row 91 cd q),(3,wa.map (·.block),Row 52 wh wq),(0,Option.some b1,Go.Obj.cells #[Go.Value.int Go.IntKind.i64 0,Go.Value.int Go.IntKind.i64 0,Go.Value.slice Option.none 0 0,Go.Value.slice Option.none 0 0] 26)])) (fun (k,cd,(u,d,q),wh,(wa,wd,wq))=>k≤l.length∧cd++Ao (l.length - 1) (l.drop k) k=N∧A4 u d cd q∧wh=(l.take k).map tL∧A4 wa wd wh wq) (fun (k,cd,(u,d,q),wh,(wa,wd,wq))=>l.length - k) ((0,[],(none,0,[]),[],(none,0,[]))) (⟨aM _,hN,eG,U,eG⟩) ⟨U,U,U,U,U,U,U,F9⟩ ⟨U,U,U,U,F9⟩ fun ⟨k,cd,(u,d,q),wh,(wa,wd,wq)⟩=>fun hk=>?_;obtain ⟨hk1,hk2,hk3,hk4,hk5⟩:=hk;have hcl:cd.length≤16384:=by rw [←hk2,aB] at hNl;omega
 rcases aK k l.length with hkl | hkl
 · obtain ⟨hnk,hzk⟩:=hok k hkl;have hgn:=Ff ⟨hnk,hzk⟩;have hdr:l.drop k=l[(k:Int).toNat]?.getD default :: l.drop (k+1):=by
    rw [dM hkl,aE,aA hkl];rfl
   rw [hdr] at hk2;have hk2:cd++((List.replicate (l.length - 1) (xR (k:Int) (Int.gcd (l[(k:Int).toNat]?.getD default).a (l[(k:Int).toNat]?.getD default).b))).flatten++Ao (l.length - 1) (l.drop (k+1)) (k+1))=N:=hk2;refine aI 14 [1] ?_;refine cD U (iI (α:=R2) T.sl22 U U sO sN) ?_;refine cD U (gH T.agg52 U (lH sO sN) U) ?_;refine aO 4 U T.zero52 fun b3=>?_;refine aL 7 [4,4] ?_;refine mO U T.fn192 U (YQ _ _ _ sO sO) ?_;refine bB 20 [] ?_;generalize hpp:l[((k:Nat):Int).toNat]?.getD default=p at *;have hnk:near p.a p.b:=by rw [←hpp];exact hnk
   have hzk:¬(p.a=0∧p.b=0):=by rw [←hpp];exact hzk
   have hgn:1≤Int.gcd p.a p.b∧Int.gcd p.a p.b≤16:=by rw [←hpp];exact hgn
   refine fT (ι:=Nat×List Sl.Instr×(Option Addr×Nat×List Value)) (fun (i,ce,(u,d,q))=>([(39,.int .i64 (i:Int)),(25,.int .i64 (k:Int)),(5,.int .i64 l.length),(6,.pointer (some ⟨b2,0,none⟩)),(1,.slice oa o.length oc),(24,.int .i64 l.length),(23,.slice a l.length c),(4,.pointer (some ⟨b1,0,none⟩)),(7,.int .i64 (k:Int)),(8,.pointer (some ⟨b3,0,none⟩)),(9,.int .i64 (Int.gcd p.a p.b)),(38,Go.Value.int Go.IntKind.i64 ((↑(List.length l):Int) - 1))],[(1,some b2,.cells #[.int .i64 l.length,.slice u ce.length d,.slice wa wh.length wd] 267),(2,u.map (·.block),Row 91 ce q),(4,Option.some b3,Go.Obj.cells (List.toArray (Go.Sl.A2.enc p)) 52),(3,Option.map (fun x=>Go.Addr.block x) wa,Go.Sl.Row (α:=Go.Sl.R2) 52 (wh) (wq)),(0,Option.some b1,Go.Obj.cells #[Go.Value.int Go.IntKind.i64 0,Go.Value.int Go.IntKind.i64 0,Go.Value.slice Option.none 0 0,Go.Value.slice Option.none 0 0] 26)])) (fun (i,ce,(u,d,q))=>i≤l.length - 1∧ce++((List.replicate (l.length - 1 - i) (xR (k:Int) (Int.gcd p.a p.b))).flatten++Ao (l.length - 1) (l.drop (k+1)) (k+1))=N∧A4 u d ce q) (fun (i,ce,(u,d,q))=>l.length - 1 - i) ((0,cd,(u,d,q))) (⟨aM _,hk2,hk3⟩) ⟨U,U,U,U,U,U,U,U,U,U,U,U,F9⟩ ⟨U,U,U,U,U,F9⟩ fun ⟨i,ce,(u,d,q)⟩=>fun hk=>?_;obtain ⟨hi1,hi2,hi3⟩:=hk;have hel:ce.length≤16384:=by rw [←hi2,aB] at hNl;omega
   rcases aK i (l.length - 1) with hil | hil
   · have er:l.length - 1 - i=(l.length - 1 - (i+1))+1:=sN;rw [er,oO,rT] at hi2;refine aI 15 [1] ?_;refine eL 1 U T.fn193 U (YN _ b2 _ u d ce q wa _ wd _ _ hi3 sN) (sS ⟨U,U,F9⟩) fun v1 G1 Ho1 hle1 hp=>?_;obtain ⟨rfl,rfl,a1,d1,j1,ho1,rfl⟩:=hp;refine aS 7 [] ?_;refine cJ 39 U (show _=Value.int .i64 ((i+1:Nat):Int) from U) ?_;refine eO ((i+1,_,(a1,d1,j1))) ?_ ?_ U ⟨U,U,U,U,U,U,U,U,U,U,U,U,F9⟩ ⟨U,U,U,U,U,F9⟩
     · refine ⟨hil,?_,ho1⟩;rw [←hi2];simp only [aR]
     show l.length - 1 - (i+1)<l.length - 1 - i;omega
   have hil:i=l.length - 1:=sN;have hi2:ce++Ao (l.length - 1) (l.drop (k+1)) (k+1)=N:=by rw [←hi2,hil,iH];rfl
   have hwl:wh.length=k:=by rw [hk4,aN,bG];omega
   have q1:=xE p.a (Int.gcd p.a p.b);have q2:=xE p.b (Int.gcd p.a p.b);have hnk2:=hnk;unfold near at hnk2;refine bI 12 [0] ?_;refine gM [0,3,4,2,1] [(1,18),(2,15),(3,15)] T.mixed U ?_;refine eY 0 [] sR U U (dD U) ?_;refine eY 1 [] sR U U (dD U) ?_;refine eY 2 [] sR U U (Qy.nilCheck U) ?_;refine eY 3 [] sR U U (fX T.fa267_2 U) ?_;refine eY 4 [1] sR U U (kU 1 T.one22 U U U) ?_;refine eY 5 [] sR U U (fX T.fa52_0 U) ?_;refine eY 6 [4] sR U U (kU 4 T.one3 U U U) ?_;refine eY 7 [] sR U U (dD U) ?_;refine eY 8 [] sR U U (oH U U sN sN) ?_;refine eY 9 [] sR U U (fX T.fa52_1 U) ?_;refine eY 10 [4] sR U U (kU 4 T.one3 U U U) ?_;refine eY 11 [] sR U U (dD U) ?_;refine eY 12 [] sR U U (oH U U sN sN) ?_;refine eY 13 [] sR U U (bP (cs:=[_,_]) T.st52 U U U) ?_;refine jE 14 ⟨U,U,U,U,U,F9⟩ wJ sR U ?_;refine cZ (α:=R2) 5 [⟨Int.tdiv (Go.Sl.R2.a p) (↑(Int.gcd (Go.Sl.R2.a p) (Go.Sl.R2.b p)):Int),Int.tdiv (Go.Sl.R2.b p) (↑(Int.gcd (Go.Sl.R2.a p) (Go.Sl.R2.b p)):Int)⟩] U T.sl22 T.el52 U U U U U fun b4=>?_;refine bC ?_;refine jE 15 ⟨U,U,U,U,U,F9⟩ wJ sR U ?_;refine eH (α:=R2) 3 U T.sl22 T.el52 U U U yY (dT 5 U) uM uM fun a1 c1 junk1 ho1=>?_;refine bC ?_;refine eY 16 [] sR U U (Qy.nilCheck U) ?_;refine eY 17 [] sR U U (fX T.fa267_2 U) ?_;refine jE 18 ⟨U,U,U,F9⟩ wJ sR U ?_;refine Wl.store 1 T.one22 U U U U U ?_;refine bC ?_;refine iN sR ⟨U,U,F9⟩ wJ ?_;refine eE 6 [] ?_;refine cJ 25 U (show _=Value.int .i64 ((k+1:Nat):Int) from U) ?_;refine eO ((k+1,ce,(u,d,q),wh++[⟨p.a.tdiv (Int.gcd p.a p.b),p.b.tdiv (Int.gcd p.a p.b)⟩],(a1,c1,junk1))) ?_ ?_ U ⟨U,U,U,U,U,U,U,F9⟩ ⟨U,U,U,U,F9⟩
   · refine ⟨hkl,hi2,hi3,?_,ho1⟩;rw [hk4,cL,jW,aA hkl];rw [aE,aA hkl] at hpp;have hpp:l[k]=p:=hpp;rw [hpp];rfl
   show l.length - (k+1)<l.length - k;omega
 have hkl:k=l.length:=sN;subst hkl;rw [nU] at hk2;have hk2:cd=N:=by rw [←hk2];exact (aY _).symm
 rw [aZ] at hk4;subst hk4;have hwl:(l.map tL).length=l.length:=aN _;have hwok:∀ i,i<(l.map tL).length→Nz ((l.map tL)[i]?.getD default):=fun i hi=>by
  rw [hwl] at hi;rw [bM];have:=hok i hi;rw [aA hi] at this ⊢;exact (xG this).2.2.2
 refine qD 3 U hk5 fun G2 hle2 hw2=>?_;replace ha:=ha.up hle2;replace hoa:=hoa.up hle2;generalize hWh:l.map tL=wh at *;refine qU 1 (.cells #[.int .i64 l.length,.slice u cd.length d,.slice wa l.length wd] 267) U (by rw [hwl]) ?_;rw [hwl] at hwok;have hgl:(N++(yV l.length wh o++vK l.length wh o)).length≤16384:=by
  have:=hgood.len;unfold Kb at this;rw [hN,hWh] at this;exact this
 generalize hA:yV l.length wh o=A at *;have hgA:(N++A).length≤16384:=by rw [←aR,aB] at hgl;omega
 refine bI 21 [0] ?_;refine fT (ι:=Nat×List Sl.Instr×(Option Addr×Nat×List Value)) (fun (t,ce,(u,d,q))=>([(67,.int .i64 (t:Int)),(66,Go.Value.int Go.IntKind.i64 (↑(List.length o):Int)),(65,Go.Value.slice oa (List.length o) oc),(5,Go.Value.int Go.IntKind.i64 (↑(List.length l):Int)),(6,Go.Value.pointer (Option.some (Go.Addr.mk b2 0 Option.none))),(1,Go.Value.slice oa (List.length o) oc),(4,Go.Value.pointer (Option.some (Go.Addr.mk b1 0 Option.none)))],[(1,some b2,.cells #[.int .i64 l.length,.slice u ce.length d,.slice wa l.length wd] 267),(2,u.map (·.block),Row 91 ce q),(0,Option.some b1,Go.Obj.cells #[Go.Value.int Go.IntKind.i64 0,Go.Value.int Go.IntKind.i64 0,Go.Value.slice Option.none 0 0,Go.Value.slice Option.none 0 0] 26)])) (fun (t,ce,(u,d,q))=>t≤o.length∧ce++yV l.length wh (o.drop t)=N++A∧A4 u d ce q) (fun (t,ce,(u,d,q))=>o.length - t) ((0,cd,(u,d,q))) (⟨aM _,by rw [hk2,←hA];rfl,hk3⟩) ⟨U,U,U,U,U,U,U,F9⟩ ⟨U,U,U,F9⟩ fun ⟨t,ce,(u,d,q)⟩=>fun hk=>?_;obtain ⟨ht1,ht2,ht3⟩:=hk;have hel:ce.length≤16384:=by rw [←ht2,aB] at hgA;omega
 rcases aK t o.length with hte | hte
 · have hdr:o.drop t=o[(t:Int).toNat]?.getD default :: o.drop (t+1):=by
    rw [dM hte,aE,aA hte];rfl
   rw [hdr] at ht2;have hok2:=o2 (o[(t:Int).toNat]?.getD default) (by rw [aE,aA hte];exact bT _);have hdl:(o.drop (t+1)).length=o.length - ((t:Int)+1).toNat:=by rw [gK];omega
   have hdA:=PR hoa (t+1) sN hocc;have ht2:ce++(yU l.length wh (o[(t:Int).toNat]?.getD default) (o.drop (t+1)).length (o.drop (t+1))++yV l.length wh (o.drop (t+1)))=N++A:=ht2;have hb:(ce++yU l.length wh (o[(t:Int).toNat]?.getD default) (o.drop (t+1)).length (o.drop (t+1))).length≤1048576:=by
    rw [←ht2,←aR,aB] at hgA;omega
   refine aI 14 [1] ?_;refine cD U (iI (α:=Int) T.sl24 U U sO sN) ?_;refine cD U (bW T.one3 U (gB sO sN 0 U U)) ?_;refine aL 10 [] ?_;refine cD U (FI T.sl24 U U sN sN) ?_;refine aC 4 [] ?_;have et:((t:Int)+1).toNat=t+1:=sN;refine fO 77 U (show _=Value.slice (C7 oa oc (t+1) (A2.sz Int)) (o.drop (t+1)).length (oc - (t+1)) by rw [hdl,et];rfl) ?_;refine fO 81 U (show _=Value.int .i64 ((o.drop (t+1)).length:Nat) by congr 1;rw [hdl,et];omega) ?_;refine eL 1 U T.fn194 U (dj _ l.length b2 u d ce q wa wd wh _ (C7 oa oc (t+1) (A2.sz Int)) _ (o.drop (t+1)).length (o.drop (t+1)) (o.drop (t+1)).length hwl U ht3 hw2 hdA hl15 hok2 (by rw [hdl];omega) (fun i hi=>o2 i (List.mem_of_mem_drop hi)) (by rw [hdl];omega) hwok hb) (sS ⟨U,U,F9⟩) fun v1 G1 Ho1 hle1 hp=>?_;obtain ⟨rfl,rfl,a1,d1,j1,ho1,rfl⟩:=hp;refine aS 7 [] ?_;refine cJ 67 U (show _=Value.int .i64 ((t+1:Nat):Int) from U) ?_;refine eO ((t+1,_,(a1,d1,j1))) ?_ ?_ U ⟨U,U,U,U,U,U,U,F9⟩ ⟨U,U,U,F9⟩
   · refine ⟨hte,?_,ho1⟩;rw [←ht2];simp only [aR]
   show o.length - (t+1)<o.length - t;omega
 have hte:t=o.length:=sN;subst hte;rw [nU] at ht2;have ht2:ce=N++A:=by rw [←ht2];exact (aY _).symm
 refine bI 13 [0] ?_;refine gM [0,2,1] [(2,8),(1,8)] T.mixed U ?_;refine eY 0 [] sR U U (dD U) ?_;refine eY 1 [] sR U U (dD U) ?_;refine eY 3 [] sR U U (dD U) ?_;refine eY 4 [] sR U U (dD U) ?_;refine eY 5 [] sR U U (Qy.sub U U sN) ?_;refine eY 6 [] sR U U (iI (α:=Int) T.sl24 U U sO sN) ?_;refine eY 7 [0] sR U U (bW T.one3 U (gB sO sN 0 U U)) ?_;refine jE 2 ⟨U,U,U,F9⟩ wJ sR U ?_;refine eD 1 U T.fn196 U (Lz _ b2 _ _ _ _ sN sN) (sS ⟨U,F9⟩) ?_;refine bC ?_;refine jE 8 ⟨U,U,U,F9⟩ wJ sR U ?_;refine eL 1 U T.fn195 U (Gq _ b2 _ u d ce q wa _ wd _ _ _ ht3 sN) (sS ⟨U,U,F9⟩) fun v1 G1 Ho1 hle1 hp=>?_;obtain ⟨rfl,rfl,a1,d1,j1,ho1,rfl⟩:=hp;refine bC ?_;refine iN sR ⟨U,F9⟩ wJ ?_;refine lS 10 [] ?_;have hbl:∀ m,(N++A++vK l.length wh (o.drop m)).length≤16384:=fun m=>by
  have:=Qs l.length wh o m;rw [aB,aB] at hgl;rw [aB,aB];omega
 have hi0:ce++sW ((l.length:Int)+0) (o[((l.length:Int) - 1).toNat]?.getD default) 1=N++A++vK l.length wh (o.drop (l.length - 1)):=by
  have e1:o.drop (l.length - 1)=[o[l.length - 1]?.getD default]:=by
   rw [dM sN,aA sN,eX sN];rfl
  rw [e1,ht2,fI,show ((l.length:Int) - 1).toNat=l.length - 1 by omega];rfl
 refine iV 15 U (show _=Value.int .i64 (((l.length - 1:Nat):Int) - 1) by congr 1;omega) ?_;refine fT (ι:=Nat×List Sl.Instr×(Option Addr×Nat×List Value)) (fun (m,cf,(u,d,q))=>([(15,.int .i64 ((m:Int) - 1)),(5,Go.Value.int Go.IntKind.i64 (↑(List.length l):Int)),(6,Go.Value.pointer (Option.some (Go.Addr.mk b2 0 Option.none))),(1,Go.Value.slice oa (List.length o) oc),(4,Go.Value.pointer (Option.some (Go.Addr.mk b1 0 Option.none)))],[(1,some b2,.cells #[.int .i64 l.length,.slice u cf.length d,.slice wa l.length wd] 267),(2,u.map (·.block),Row 91 cf q),(0,Option.some b1,Go.Obj.cells #[Go.Value.int Go.IntKind.i64 0,Go.Value.int Go.IntKind.i64 0,Go.Value.slice Option.none 0 0,Go.Value.slice Option.none 0 0] 26)])) (fun (m,cf,(u,d,q))=>m≤l.length - 1∧cf=N++A++vK l.length wh (o.drop m)∧A4 u d cf q) (fun (m,cf,(u,d,q))=>m) ((l.length - 1,_,(a1,d1,j1))) (⟨aH _,hi0,ho1⟩) ⟨U,U,U,U,U,F9⟩ ⟨U,U,U,F9⟩ fun ⟨m,cf,(u,d,q)⟩=>fun hk=>?_;obtain ⟨hm1,hm2,hm3⟩:=hk;rcases gD m with hm0 | hm0
 · subst hm0;refine aI 17 [0] ?_;refine cD U (lZ U U sN) ?_;refine aC 5 [1] ?_;refine cD U (bP (cs:=[_,_,_,_]) T.st26 U U U) ?_;refine aO 3 U T.zero26 fun b3=>?_;refine bB 11 [3] ?_;refine eJ 4 (Row 3 ([]:List Int) []) ?_;have hcf:cf=Kb l o:=by
    rw [hm2,nJ];unfold Kb;rw [hN,hWh,hA,aR]
   refine fT (ι:=Nat×(Option Addr×Nat×List Value)) (fun (t,(x,y,z))=>([(119,.int .i64 (t:Int)),(118,Go.Value.int Go.IntKind.i64 (↑(List.length l):Int)),(16,Go.Value.pointer (Option.some (Go.Addr.mk b3 0 Option.none))),(6,Go.Value.pointer (Option.some (Go.Addr.mk b2 0 Option.none))),(4,Go.Value.pointer (Option.some (Go.Addr.mk b1 0 Option.none)))],[(3,some b3,.cells #[.int .i64 l.length,.int .i64 (3*(l.length:Int)+1),.slice u cf.length d,.slice x (Fi l.length t).length y] 26),(4,x.map (·.block),Row 3 (Fi l.length t) z),(1,Option.some b2,Go.Obj.cells #[Go.Value.int Go.IntKind.i64 (↑(List.length l):Int),Go.Value.slice u (List.length cf) d,Go.Value.slice wa (List.length l) wd] 267),(2,Option.map (fun x=>Go.Addr.block x) u,Go.Sl.Row (α:=Go.Sl.Instr) 91 (cf) (q)),(0,Option.some b1,Go.Obj.cells #[Go.Value.int Go.IntKind.i64 0,Go.Value.int Go.IntKind.i64 0,Go.Value.slice Option.none 0 0,Go.Value.slice Option.none 0 0] 26)])) (fun (t,(x,y,z))=>t≤l.length∧A4 x y (Fi l.length t) z) (fun (t,(x,y,z))=>l.length - t) ((0,(none,0,[]))) (⟨aM _,eG⟩) ⟨U,U,U,U,U,F9⟩ ⟨U,U,U,U,U,F9⟩ fun ⟨t,(x,y,z)⟩=>fun hk=>?_;obtain ⟨hx1,hx2⟩:=hk;have hol:(Fi l.length t).length=t:=KA _ _;rcases aK t l.length with htl | htl
   · refine bI 17 [1] ?_;refine gM [0,2,1,4,3] [(3,8),(4,6),(2,6)] T.mixed U ?_;refine eY 0 [] sR U U (fX T.fa26_3 U) ?_;refine eY 1 [3] sR U U (kU 3 T.one24 U U U) ?_;refine eY 2 [] sR U U (dD U) ?_;refine eY 3 [] sR U U (dD U) ?_;refine jE 4 ⟨U,U,U,U,U,F9⟩ wJ sR U ?_;refine eD 1 U T.fn196 U (Lz _ b2 _ _ _ _ sN sN) (sS ⟨U,F9⟩) ?_;refine bC ?_;refine jE 5 ⟨U,U,U,U,U,F9⟩ wJ sR U ?_;refine cZ (α:=Int) 5 [((↑(List.length l):Int)+(↑t:Int))] U T.sl24 T.el3 U U U U U fun b4=>?_;refine bC ?_;refine jE 6 ⟨U,U,U,U,U,F9⟩ wJ sR U ?_;refine eH (α:=Int) 4 U T.sl24 T.el3 U U U yY (dT 5 U) uM uM fun a2 c2 junk2 ho2=>?_;refine bC ?_;refine eY 7 [] sR U U (fX T.fa26_3 U) ?_;refine jE 8 ⟨U,U,U,F9⟩ wJ sR U ?_;refine Wl.store 3 T.one24 U U U U U ?_;refine bC ?_;refine iN sR ⟨U,U,F9⟩ wJ ?_;refine eE 6 [] ?_;refine cJ 119 U (show _=Value.int .i64 ((t+1:Nat):Int) from U) ?_;refine gC 3 (.cells #[.int .i64 l.length,.int .i64 (3*(l.length:Int)+1),.slice u cf.length d,.slice a2 (Fi l.length (t+1)).length c2] 26) U (by rw [Ig];rfl) ?_;refine gC 4 (Row 3 (Fi l.length (t+1)) junk2) U (by rw [Ig]) ?_;refine eO ((t+1,(a2,c2,junk2))) ?_ ?_ U ⟨U,U,U,U,U,F9⟩ ⟨U,U,U,U,U,F9⟩
     · exact ⟨htl,by rw [Ig];exact ho2⟩
     show l.length - (t+1)<l.length - t;omega
   have htl:t=l.length:=sN;subst htl;subst hcf;refine bE 19 [0,3,0] ?_;refine mK [2,4,0] sY (cH (.inr U) (Ho:=Hp.only _ [0,1]) U (.agg 2 U U T.agg26) (aV _ _) ?_);exact ⟨u,x,d,y,q,z,U,hm3,hx2,U⟩
 obtain ⟨i,rfl⟩:∃ i,m=i+1:=⟨m - 1,by omega⟩
 refine iV 15 U (show _=Value.int .i64 (i:Int) by congr 1;omega) ?_;have hin:i<o.length:=sN;have hdr:o.drop i=o[(i:Int).toNat]?.getD default :: o.drop (i+1):=by
  rw [dM hin,aE,aA hin];rfl
 have hok2:=o2 (o[(i:Int).toNat]?.getD default) (by rw [aE,aA hin];exact bT _);have hdl:(o.drop (i+1)).length=o.length - (i+1):=gK;have hbk:cf++xS l.length wh (o[(i:Int).toNat]?.getD default) (o.drop (i+1)).length=N++A++vK l.length wh (o.drop i):=by
  rw [hm2,hdr,Xb _ _ _ sN];simp only [aR]
 have hb:(cf++xS l.length wh (o[(i:Int).toNat]?.getD default) (o.drop (i+1)).length).length≤1048576:=by
  rw [hbk];have:=hbl i;omega
 refine aI 16 [1] ?_;refine cD U (iI (α:=Int) T.sl24 U U sO sN) ?_;refine cD U (bW T.one3 U (gB sO sN 0 U U)) ?_;refine aC 4 [] ?_;refine fO 107 U (show _=Value.int .i64 ((o.drop (i+1)).length:Nat) by congr 1;rw [hdl];omega) ?_;refine eL 1 U T.fn197 U (dk _ l.length b2 u d cf q wa wd wh _ (o.drop (i+1)).length hwl hm3 hw2 hl15 hok2 (by rw [hdl];omega) (by rw [hdl];omega) (hwok _ sN) hb) (sS ⟨U,U,F9⟩) fun v3 G3 Ho3 hle3 hp=>?_;obtain ⟨rfl,rfl,a3,d3,j3,ho3,rfl⟩:=hp;refine aS 8 [] ?_;refine cJ 15 U (show _=Value.int .i64 ((i:Int) - 1) from U) ?_;refine eO ((i,_,(a3,d3,j3))) ?_ ?_ U ⟨U,U,U,U,U,F9⟩ ⟨U,U,U,F9⟩
 · exact ⟨by omega,hbk,ho3⟩
 show i<i+1;omega
theorem KB {G:A3} {b:Nat} {cs:List Value} {T:TypeId} {fz:Nat×Nat} (h:G b=some (.cells cs.toArray T fz)) (k:Nat) {v:Value} (hv:cs[k]?=some v):G.cell b k=some v:=by
 simp only [A3.cell,h];simpa using hv
theorem ko (G:A3) (a:Option Addr) (n c:Nat):Does Tryz.prog 146 [.slice a n c] G [] (fun v G' Ho=>∃ b,v=.func (.func 191) #[] #[.pointer (some ⟨b,0,none⟩)]∧Ho=[]∧G' b=some (.cells [.slice a n c].toArray 24)):=by
 refine gF Tryz.func146 U Tryz.ntmps146 U fun w=>?_;refine aI 2 [] ?_;refine nB 0 U U U fun b1=>?_;refine aL 5 [] ?_;refine cD U (gR U U) ?_;refine aS 4 [] ?_;refine pZ 0 U fun G' hle hb=>?_;refine cH (.inr U) (Ho:=[]) U (.tmp U) F9 ?_;exact ⟨_,U,U,hb⟩
def encI (x:Int):List Value:=[.int .i64 x]
theorem kp (G:A3) (a:Option Addr) (c:Nat) (xs:List Int) (b:Nat) (hx:Arr G a xs) (hl:xs.length≤1099511627776) (hb:G b=some (.cells [.slice a xs.length c].toArray 24)) :
 Jb Tryz.prog 191 [.pointer (some ⟨b,0,none⟩)] G encI xs:=by
 intro ι J inv stop ly i0 hi0 hY;have hcell:G.cell b 0=some (.slice a xs.length c):=KB hb 0 U;refine gF Tryz.func191 U Tryz.ntmps191 U fun w=>?_;refine Jd 1000 ?_;refine aI 2 [] ?_;refine cD U (bW T.one24 U sO) ?_;refine bB 5 [] ?_;refine Yq (ι:=Nat×ι) 1000 (fun (m,s)=>([(7,.int .i64 (m:Int)),(6,Go.Value.int Go.IntKind.i64 (↑(List.length xs):Int)),(5,Go.Value.slice a (List.length xs) c),(0,Go.Value.func (Go.Fn.yield ly) #[] #[])],[])) (fun (m,s)=>J s) (fun (m,s)=>m≤xs.length∧inv m s) (fun (m,s)=>xs.length - m) ((0,i0)) (⟨aM _,hi0⟩) ⟨U,U,U,U,F9⟩ F9 vU fun ⟨m,s⟩=>fun hk=>?_;obtain ⟨hm1,hinv⟩:=hk;refine bI 6 [] ?_;refine nD U (fun hc1=>?_) fun hc1=>?_;refine aI 6 [] ?_;refine cD U (iI (α:=Int) T.sl24 U U sO sN) ?_;refine cD U (bW T.one3 U (gB sO sN 0 U U)) ?_;refine aL 7 [] ?_;rotate_left;refine bE 4 [] ?_;rotate_left
 · have hml:m<xs.length:=sN;have hbx:xs[m]?=some (xs[(m:Int).toNat]?.getD default):=by
    rw [aE,aA hml];rfl
   refine Ld (A:=[]) 1000 U U U F9 vU U (hY m _ s hbx hinv) fun vy Gy Hy hly hp=>?_;obtain ⟨rfl,s',rfl,hp⟩:=hp;rcases hp with ⟨rfl,hinv'⟩ | ⟨rfl,hst⟩
   · refine aS 11 [0] ?_;refine cJ 7 U (show _=Value.int .i64 ((m+1:Nat):Int) from U) ?_;refine If ((m+1,s')) ?_ ?_ U ⟨U,U,U,U,F9⟩ F9 vU
     · exact ⟨hml,hinv'⟩
     show xs.length - (m+1)<xs.length - m;omega
   refine aS 9 [1] ?_;refine mT (k:=1000) (.inr U) U vU ⟨U,s',U,.inr hst⟩
 have hm:m=xs.length:=sN;subst hm;refine mT (k:=1000) (.inl U) U vU ⟨U,s,U,.inl hinv⟩
theorem kq (G:A3) (a:Option Addr) (c:Nat) (xs:List Int) (b:Nat) (hx:Arr G a xs) (hl:xs.length≤1048576) (hb:G b=some (.cells [.slice a xs.length c].toArray 24)) :
 Does Tryz.prog 224 [.slice none 0 0,.func (.func 191) #[] #[.pointer (some ⟨b,0,none⟩)]] G [] (fun v G' Ho=>∃ (o:Option Addr) (d:Nat) (j:List Value),v=.slice o xs.length d∧A4 o d xs j∧Ho=[(0,o.map (·.block),Row 3 xs j)]∧G'=G):=by
 refine kA Tryz.func224 U Tryz.ntmps224 U fun w=>?_;refine aI 2 [] ?_;refine nB 0 U U U fun b1=>?_;refine bB 10 [] ?_;refine eJ 1 (Row 3 ([]:List Int) []) ?_;refine qC (ι:=List Int×(Option Addr×Nat×List Value)) 900 901 (fun (ys,(o,d,j))=>[(0,some b1,.cells #[.slice o ys.length d] 24),(1,o.map (·.block),Row 3 ys j)]) (fun k (ys,(o,d,j))=>ys=xs.take k∧A4 o d ys j) (fun c (ys,(o,d,j))=>False) (([],(none,0,[]))) U T.fn191 (fun _=>rfl) U (kp _ a c xs b hx sN hb) (⟨U,eG⟩) (nK ⟨U,U,F9⟩) ⟨U,fun _=>rfl⟩ (fun k x ⟨ys,(o,d,j)⟩ l dd q w0 hx hi=>?_) (fun ⟨ys,(o,d,j)⟩ dd hi=>?_) fun ⟨ys,(o,d,j)⟩ dd c hi=>?_
 · obtain ⟨hy,ho⟩:=hi;have hkl:k<xs.length:=(bJ.1 hx).1;have hyl:ys.length=k:=by rw [hy,bG];omega
   refine bE 3 [] ?_;refine nQ 900 U ?_;refine aI 4 [0] ?_;refine cZ (α:=Int) 902 [(x)] U T.sl24 T.el3 U U U U U fun b2=>?_;refine eH (α:=Int) 1 U T.sl24 T.el3 U U U yY (dT 902 U) uM uM fun a1 c1 junk1 ho1=>?_;refine aS 3 [0] ?_;refine gU none (.inl ⟨U,U⟩) 900 U ⟨U,((ys++[x],(a1,c1,junk1)),none),U,.inl ⟨U,U,?_⟩⟩ (nK ⟨U,U,U,U,F9⟩);refine ⟨?_,ho1⟩;rw [cL,hx,hy];rfl
 · obtain ⟨hy,ho⟩:=hi;rw [aZ] at hy;subst hy;refine eE 9 [0] ?_;refine iD (.inr U) 901 U ?_;refine jP (.inr U) ?_;refine kE (mK [1] sY (cH (.inr U) U (.tmp U) (mD 0 _) ?_));exact ⟨_,_,_,U,ho,U,U⟩
 exact hi.elim
theorem kr (G:A3) (a:Option Addr) (c:Nat) (xs:List Int) (b:Nat) (hx:Arr G a xs) (hl:xs.length≤1048576) (hb:G b=some (.cells [.slice a xs.length c].toArray 24)) :
 Does Tryz.prog 189 [.func (.func 191) #[] #[.pointer (some ⟨b,0,none⟩)]] G [] (fun v G' Ho=>∃ (o:Option Addr) (d:Nat) (j:List Value),v=.slice o xs.length d∧A4 o d xs j∧Ho=[(0,o.map (·.block),Row 3 xs j)]∧G'=G):=by
 refine gF Tryz.func189 U Tryz.ntmps189 U fun w=>?_;refine aI 8 [] ?_;refine eL 0 U T.fn224 U (kq _ a c xs b hx hl hb) (sS F9) fun v1 G1 Ho1 hle1 hp=>?_;obtain ⟨o1,d1,j1,rfl,ho1,rfl,rfl⟩:=hp;refine aS 4 [] ?_;refine cH (.inr U) (Ho:=Hp.only _ [0]) U (.tmp U) (aV _ _) ?_;exact ⟨_,_,_,U,ho1,U,U⟩
def Hj (xs:List Int):List Int:=xs.mergeSort fun x y=>decide (x≤y)
theorem yM (xs:List Int):(Hj xs).length=xs.length:=List.length_mergeSort xs
theorem ku (G:A3) (a:Option Addr) (c:Nat) (xs:List Int) (b:Nat) (hx:Arr G a xs) (hl:xs.length≤1048576) (hb:G b=some (.cells [.slice a xs.length c].toArray 24)) :
 Does Tryz.prog 145 [.func (.func 191) #[] #[.pointer (some ⟨b,0,none⟩)]] G [] (fun v G' Ho=>∃ (o:Option Addr) (d:Nat),v=.slice o (Hj xs).length d∧Arr G' o (Hj xs)∧(Hj xs).length≤d∧Ho=[]):=by
 refine gF Tryz.func145 U Tryz.ntmps145 U fun w=>?_;refine aI 8 [] ?_;refine eL 0 U T.fn189 U (kr _ a c xs b hx hl hb) (sS F9) fun v1 G1 Ho1 hle1 hp=>?_;obtain ⟨o1,d1,j1,rfl,ho1,rfl,rfl⟩:=hp;refine aL 6 [] ?_;rcases ho1 with ⟨rfl,rfl,rfl,rfl⟩ | ⟨bb,rfl,h2,h3,h4⟩
 · refine mO U T.fn190 U (dh _ _) ?_;refine aS 9 [] ?_;refine cH (.inr U) (Ho:=[]) U (.tmp U) F9 ?_;exact ⟨none,0,by rw [yM],by rw [dO (yM [])];exact kC _,nG (yM []),U⟩
 refine eL 0 U T.fn190 U (ki _ bb d1 xs j1 sN) (sS ⟨U,F9⟩) fun v2 G2 Ho2 hle2 hp=>?_;obtain ⟨rfl,rfl,rfl⟩:=hp;refine aS 9 [] ?_;have hoS:A4 (some ⟨bb,0,none⟩) d1 (Hj xs) j1:=.inr ⟨bb,U,by rw [yM];exact h2,by rw [yM];exact h3,h4⟩;refine cX 0 U hoS fun G8 hle8 hA8=>?_;refine cH (.inr U) (Ho:=[]) U (.tmp U) F9 ?_;exact ⟨_,_,by rw [yM],hA8,by rw [yM];exact h3,U⟩
theorem Mc (n:Nat):(idx n).Pairwise (·<·):=by
 unfold idx;rw [List.pairwise_map];exact List.Pairwise.imp (fun h=>by omega) List.pairwise_lt_range
theorem Oh (n:Nat) (x:Int):x∈idx n↔0≤x∧x<n:=by
 unfold idx;rw [dL];constructor
 · rintro ⟨k,hk,rfl⟩;have:=iG.1 hk;omega
 intro h;exact ⟨x.toNat,iG.2 sN,by omega⟩
theorem EI (o:List Int) (n:Nat):Hj o=idx n↔Bk o n:=by
 have hnd:(idx n).Nodup:=(Mc n).imp (fun h=>by omega);have hp:(Hj o).Perm o:=List.mergeSort_perm o _;constructor
 · intro h;rw [h] at hp;refine ⟨by rw [←hp.length_eq,Oc],fun x hx=>(Oh n x).1 (hp.mem_iff.2 hx),hp.nodup_iff.1 hnd⟩
 rintro ⟨h1,h2,h3⟩;have hm:∀ x,x∈o↔x∈idx n:=fun x=>by
  refine ⟨fun hx=>(Oh n x).2 (h2 x hx),fun hx=>dY fun hno=>?_⟩;have:=List.Nodup.length_le_of_subset (qN.2 ⟨hno,h3⟩) (l₂:=idx n) (fun y hy=>by
   rcases iP.1 hy with rfl | hy
   · exact hx
   exact (Oh n y).2 (h2 y hy))
  rw [bA,Oc] at this;omega
 have hperm:(Hj o).Perm (idx n):=hp.trans ((List.perm_ext_iff_of_nodup h3 hnd).2 hm);exact List.Perm.eq_of_pairwise (le:=fun a b:Int=>a≤b) (fun a b _ _ h1 h2=>by omega) (JZ o) ((Mc n).imp (fun h=>by omega)) hperm
theorem kv (G:A3) (a b:Option Addr) (c d:Nat) (xs ys:List Int) (hx:Arr G a xs) (hy:Arr G b ys) (hl:xs.length≤1048576) :
 Does Tryz.prog 86 [.slice a xs.length c,.slice b ys.length d] G [] (fun v G' Ho=>v=.bool (decide (xs=ys))∧G'=G∧Ho=[]):=by
 refine gF Tryz.func86 U Tryz.ntmps86 U fun w=>?_;refine bI 15 [] ?_;refine nD U (fun hc1=>?_) fun hc1=>?_;refine bE 7 [] ?_;refine cH (.inr U) (Ho:=Hp.only _ []) U (.tmp U) (aV _ _) ?_;rotate_left;refine bI 11 [] ?_;rotate_left
 · refine ⟨?_,U,U⟩;congr 1;refine (cA fun h=>hc1 ?_).symm;rw [h]
 have hle:xs.length=ys.length:=dY fun h=>hc1 sN;refine fT (ι:=Nat) (fun k=>([(13,.int .i64 (k:Int)),(12,Go.Value.int Go.IntKind.i64 (↑(List.length xs):Int)),(0,Go.Value.slice a (List.length xs) c),(1,Go.Value.slice b (List.length ys) d)],[])) (fun k=>k≤xs.length∧(∀ i,i<k→xs[i]?.getD default=ys[i]?.getD default)) (fun k=>xs.length - k) (0) (⟨aM _,fun i h=>absurd h sN⟩) ⟨U,U,U,U,F9⟩ F9 fun k=>fun hk=>?_;obtain ⟨hk1,hk2⟩:=hk;rcases aK k xs.length with hkl | hkl
 · refine bI 18 [1] ?_;refine gM [] [] T.mixed U ?_;refine eY 0 [] sR U U (dD U) ?_;refine eY 1 [] sR U U (dD U) ?_;refine eY 2 [] sR U U (iI (α:=Int) T.sl24 U U sO sN) ?_;refine eY 3 [] sR U U (bW T.one3 U (gB sO sN 0 U U)) ?_;refine eY 4 [] sR U U (dD U) ?_;refine eY 5 [] sR U U (dD U) ?_;refine eY 6 [] sR U U (iI (α:=Int) T.sl24 U U sO sN) ?_;refine eY 7 [] sR U U (bW T.one3 U (gB sO sN 0 U U)) ?_;refine eY 8 [] sR U U (Qy.neq U U) ?_;refine iN sR F9 wJ ?_;refine cN ?_;refine nD U (fun hc2=>?_) fun hc2=>?_;refine bE 11 [] ?_;refine cH (.inr U) (Ho:=Hp.only _ []) U (.tmp U) (aV _ _) ?_;rotate_left;refine bE 7 [] ?_;rotate_left
   · refine ⟨?_,U,U⟩;congr 1;refine (cA fun h=>hc2 ?_).symm;rw [h]
   refine cJ 13 U (show _=Value.int .i64 ((k+1:Nat):Int) from U) ?_;refine eO (k+1) ?_ ?_ U ⟨U,U,U,U,F9⟩ F9
   · refine ⟨hkl,fun i hi=>?_⟩;rcases aK i k with h | h
     · exact hk2 i h
     have e:i=k:=sN;subst e;exact dY fun h=>hc2 h
   show xs.length - (k+1)<xs.length - k;omega
 refine bE 18 [0] ?_;refine cH (.inr U) (Ho:=Hp.only _ []) U (.tmp U) (aV _ _) ?_;refine ⟨?_,U,U⟩;congr 1;refine (bL ?_).symm;apply fL hle;intro i h1 h2;have:=hk2 i sN;rw [aA h1,aA h2] at this;exact this
theorem kw (G:A3) (a:Option Addr) (c:Nat) (l:List R2) (oa:Option Addr) (oc:Nat) (o:List Int) (ha:Arr G a l) (hoa:Arr G oa o) (hac:l.length≤c) (hocc:o.length≤oc) (hR:tW l) (hO:Bk o l.length) :
 Does Tryz.prog 91 [.slice a l.length c,.slice oa o.length oc] G [] (fun v G' Ho=>∃ (bc bo:Option Addr) (dc do_:Nat) (j1 j2:List Value),v=.tuple #[.agg #[.int .i64 (madeP l o).ins,.int .i64 (madeP l o).regs,.slice bc (madeP l o).code.length dc,.slice bo (madeP l o).outs.length do_],.int .i64 0]∧A4 bc dc (madeP l o).code j1∧A4 bo do_ (madeP l o).outs j2∧
  Ho=[(0,bc.map (·.block),Row 91 (madeP l o).code j1),(1,bo.map (·.block),Row 3 (madeP l o).outs j2)]):=by
 have hl15:=hR.2.1;have hol:o.length≤1048576:=by rw [hO.1];omega
 refine gF Tryz.func91 U Tryz.ntmps91 U fun w=>?_;refine aI 2 [] ?_;refine aO 0 U T.zero26 fun b1=>?_;refine aL 7 [] ?_;refine mO U T.fn144 U (WL _ _ _ l sO sN hac hR) ?_;refine aC 5 [] ?_;refine eL 1 U T.fn146 U (ko _ _ _ _) (sS F9) fun v1 G1 Ho1 hle1 hp=>?_;obtain ⟨vb1,rfl,rfl,hvb1⟩:=hp;replace ha:=ha.up hle1;replace hoa:=hoa.up hle1;refine qA U U ?_;refine eL 1 U T.fn145 U (ku _ oa oc o vb1 hoa hol hvb1) (sS F9) fun v2 G2 Ho2 hle2 hp=>?_;obtain ⟨so2,sd2,rfl,hs2,hsd2,rfl⟩:=hp;replace ha:=ha.up hle2;replace hoa:=hoa.up hle2;refine aC 5 [] ?_;refine eL 1 U T.fn92 U (c92 _ l.length sN) (sS F9) fun v3 G3 Ho3 hle3 hp=>?_;obtain ⟨na3,nc3,rfl,hna3,hnc3,rfl⟩:=hp;replace hs2:=hs2.up hle3;replace ha:=ha.up hle3;replace hoa:=hoa.up hle3;refine qA U U ?_;refine mO U T.fn86 U (kv _ so2 na3 _ _ (Hj o) (idx l.length) hs2 hna3 (by rw [yM];exact hol)) ?_;refine qA U U ?_;refine cD U (fP U) ?_;refine bB 3 [] ?_;refine nD U (fun hc1=>?_) fun hc1=>?_;refine aI 2 [] ?_;refine cD U (bP (cs:=[_,_,_,_]) T.st26 U U U) ?_;refine aS 6 [0] ?_;rotate_left;refine aI 6 [] ?_;rotate_left;skip;have hso:=EI o l.length;have hne:Hj o=idx l.length:=hso.2 hO;skip
 · exact absurd hne hc1
 refine eL 1 U T.fn147 U (kn _ a c l oa oc o ha hoa hac hocc hR hO) (sS F9) fun v4 G4 Ho4 hle4 hp=>?_;obtain ⟨bc4,bo4,dc4,dd4,j4,z4,rfl,ho4,hp4,rfl⟩:=hp;refine aS 5 [0] ?_;refine mK [1,2,0] sY (gZ (.inr U) (Ho:=Hp.only _ [0,1]) U (.agg 2 U U T.agg26) (.tmp U) (aV _ _) ?_);exact ⟨_,_,_,_,_,_,U,ho4,hp4,U⟩
theorem Cz (n:Nat):Bk (idx n) n:=⟨Oc n,fun x hx=>(Oh n x).1 hx,(Mc n).imp (fun h=>by omega)⟩
theorem kx (G:A3) (a:Option Addr) (c:Nat) (l:List R2) (ha:Arr G a l) (hac:l.length≤c) (hR:tW l) :
 Does Tryz.prog 44 [.slice a l.length c] G [] (fun v G' Ho=>∃ (bc bo:Option Addr) (dc do_:Nat) (j1 j2:List Value),v=.tuple #[.agg #[.int .i64 (madeP l (idx l.length)).ins,.int .i64 (madeP l (idx l.length)).regs,.slice bc (madeP l (idx l.length)).code.length dc,.slice bo (madeP l (idx l.length)).outs.length do_],.int .i64 0]∧A4 bc dc (madeP l (idx l.length)).code j1∧A4 bo do_ (madeP l (idx l.length)).outs j2∧
  Ho=[(0,bc.map (·.block),Row 91 (madeP l (idx l.length)).code j1),(1,bo.map (·.block),Row 3 (madeP l (idx l.length)).outs j2)]):=by
 have hl15:=hR.2.1;refine gF Tryz.func44 U Tryz.ntmps44 U fun w=>?_;refine aI 2 [] ?_;refine aO 0 U T.zero26 fun b1=>?_;refine aL 8 [] ?_;refine eL 1 U T.fn92 U (c92 _ l.length sN) (sS F9) fun v1 G1 Ho1 hle1 hp=>?_;obtain ⟨na1,nc1,rfl,hna1,hnc1,rfl⟩:=hp;replace ha:=ha.up hle1;refine eL 1 U T.fn91 U (kw _ a c l na1 nc1 (idx l.length) ha hna1 hac hnc1 hR (Cz l.length)) (sS F9) fun v2 G2 Ho2 hle2 hp=>?_;obtain ⟨bc2,bo2,dc2,dd2,j2,z2,rfl,ho2,hp2,rfl⟩:=hp;replace hna1:=hna1.up hle2;replace ha:=ha.up hle2;refine aS 7 [0] ?_;refine mK [1,2,0] sY (gZ (.inr U) (Ho:=Hp.only _ [0,1]) U (.agg 2 U U T.agg26) (.tmp U) (aV _ _) ?_);exact ⟨_,_,_,_,_,_,U,ho2,hp2,U⟩
theorem VA {t:Tab} {regs:Int} {i:Sl.Instr} (n:Int) (o:List Sl.Instr) (hs:D1 t regs) (hm:tB i regs=true) :
 D1 (tI (t,o) n i).1 regs∧((tI (t,o) n i).2=o∨∃ j,(tI (t,o) n i).2=o++[j]∧tB j regs=true):=by
 obtain ⟨m1,m2,m3,m4,m5⟩:=tK hm;obtain ⟨s1,s2⟩:=Jo hs n i m3;have hh:=Ca t n i;have hset:∀ k:Nat,D1 { (reckonP t n i).2 with held:=(reckonP t n i).2.held.set k (reckonP t n i).1.1 } regs:=fun k =>
  ⟨FR s1.len,fun x hx=>by
   rcases fC hx with h | h
   · exact s1.held x h
   rw [h];exact s2,s1.known⟩
 by_cases hsame:(reckonP t n i).2.held[(askedP (reckonP t n i).2.held i).to.toNat]?.getD default=(reckonP t n i).1.1
 · rw [Hd hsame];exact ⟨s1,.inl U⟩
 by_cases hmv:0≤holder (reckonP t n i).2.held (reckonP t n i).1.1
 · rw [He hsame hmv];exact ⟨hset _,.inr ⟨_,U,Fu (.inl U) m2 ⟨hmv,by have:=(Cb hmv).1;rw [s1.len] at this;exact this⟩⟩⟩
 rw [Hf hsame hmv];refine ⟨hset _,.inr ⟨_,U,?_⟩⟩;rw [hh];have:=(IW (l:=t.held) (i:=i) (by rw [hs.len];exact hm)).2.2;rw [hs.len] at this;exact this
theorem Xc {p:PV} (h:sP p=true):∀ k:Nat,k≤p.code.length→D1 (tR p k).1 p.regs∧(tR p k).2.length≤k∧∀ i∈(tR p k).2,tB i p.regs=true
 | 0,_=>⟨Nc ⟨(sT h).1,(sT h).2.1⟩,aH _,fun i hi=>by cases hi⟩
 | k+1,hk=>by
   obtain ⟨h1,h2,h3⟩:=Xc h k sN;have hm:tB (p.code[(k:Int).toNat]?.getD default) p.regs=true:=by
    rw [aE,aA sN];exact (sT h).2.2.2.2.2.2.2 _ (bT _)
   obtain ⟨s1,s2⟩:=VA (k:Int) (tR p k).2 h1 hm;show D1 (tI (tR p k) k _).1 p.regs∧(tI (tR p k) k _).2.length≤k+1∧∀ i∈(tI (tR p k) k _).2,tB i p.regs=true;rcases s2 with e | ⟨j,e,hj⟩
   · refine ⟨s1,?_,fun i hi=>?_⟩
     · rw [show tI (tR p k) k _=tI ((tR p k).1,(tR p k).2) k _ from rfl,e];omega
     rw [show tI (tR p k) k _=tI ((tR p k).1,(tR p k).2) k _ from rfl,e] at hi;exact h3 i hi
   refine ⟨s1,?_,fun i hi=>?_⟩
   · rw [show tI (tR p k) k _=tI ((tR p k).1,(tR p k).2) k _ from rfl,e,aB];simp only [bA,cE];omega
   rw [show tI (tR p k) k _=tI ((tR p k).1,(tR p k).2) k _ from rfl,e] at hi;rcases iA.1 hi with hi | hi
   · exact h3 i hi
   rw [eT.1 hi];exact hj
theorem BF {p:PV} (h:sP p=true):sP (xW p)=true:=by
 obtain ⟨r1,r2,r3,r4,r5,r6,r7,r8⟩:=sT h;obtain ⟨h1,h2,h3⟩:=Xc h _ (aH _);have hl:(xW p).outs.length=p.outs.length:=by show (vV _ _).length=_;unfold vV;rw [aN]
 refine Lr ⟨r1,r2,r3,bO h2 r4,by rw [hl];exact r5,by rw [hl];exact r6⟩ (fun r hr=>?_) h3;obtain ⟨x,hx,rfl⟩:=dL.1 (show r∈vV p (tR p p.code.length).1.held from hr);have:=zF (l:=(tR p p.code.length).1.held) (r:=x) (by rw [h1.len];exact r7 x hx);rw [h1.len] at this;exact ⟨this.1,this.2.1⟩
theorem BG {G:A3} {b:Nat} {cs:List Value} {T:TypeId} {fz:Nat×Nat} (h:G b=some (.cells cs.toArray T fz)) (k:Nat) {v:Value} (hv:cs[k]?=some v):G.cell b k=some v:=by
 simp only [A3.cell,h];simpa using hv
theorem Fx {G:A3} {b:Nat} {cs:List Value} {T:TypeId} {fz:Nat×Nat} (h:G b=some (.cells cs.toArray T fz)):G.row b 0 cs:=by
 intro i v hi;simp only [A3.cell,h,cR];simpa using hi
def Qt (xs:List Sl.Instr):List (Int×Sl.Instr):=(List.range xs.length).map fun j=>(((xs.length - 1 - j:Nat):Int),xs[xs.length - 1 - j]?.getD default)
def dl (x:Int×Sl.Instr):List Value:=[.int .i64 x.1,.agg (A2.enc x.2).toArray]
theorem Da (xs:List Sl.Instr):(Qt xs).length=xs.length:=by simp [Qt]
theorem Md (xs:List Sl.Instr) {j:Nat} (h:j<xs.length):(Qt xs)[j]?=some (((xs.length - 1 - j:Nat):Int),xs[xs.length - 1 - j]?.getD default):=by simp [Qt,h]
def vI (l:List Bool) (rs:List Int):List Bool:=rs.foldl (fun l r=>l.set r.toNat true) l
theorem xH (l:List Bool) (rs:List Int):(vI l rs).length=l.length:=by
 unfold vI;induction rs generalizing l with
 | nil=>rfl
 | cons r rs ih=>simp only [List.foldl_cons];rw [ih,aG]
theorem Cg (l:List Bool) (rs:List Int) {k:Nat} (h:k<rs.length):vI l (rs.take (k+1))=(vI l (rs.take k)).set (rs[((k:Nat):Int).toNat]?.getD default).toNat true:=by
 unfold vI;rw [cL,List.foldl_append,aE,aA h];rfl
def xX (s:List Bool×List Bool) (k:Int) (i:Sl.Instr):List Bool×List Bool:=
 if s.1[i.to.toNat]?.getD default=true then (vI (s.1.set i.to.toNat false) (tC i),s.2.set k.toNat true) else s
def zJ (p:PV):Nat→List Bool×List Bool
 | 0=>(vI (List.replicate p.regs.toNat false) p.outs,List.replicate p.code.length false)
 | j+1=>xX (zJ p j) ((p.code.length - 1 - j:Nat):Int) (p.code[p.code.length - 1 - j]?.getD default)
def sV (p:PV):List Bool:=(zJ p p.code.length).2
theorem wM (p:PV) (j:Nat):(zJ p j).1.length=p.regs.toNat∧(zJ p j).2.length=p.code.length:=by
 induction j with
 | zero=>simp [zJ,xH]
 | succ j ih =>
   simp only [zJ,xX];split
   · simp [xH,ih]
   exact ih
theorem Oi {i:Sl.Instr} {regs:Int} (h:tB i regs=true):∀ r∈tC i,0≤r∧r<regs:=by
 unfold tB at h;simp only [aU,eK,aT] at h;exact h.2
def vT (p:PV):Nat→List Sl.Instr
 | 0=>[]
 | k+1=>if (sV p)[((k:Nat):Int).toNat]?.getD default=true∧¬((p.code[((k:Nat):Int).toNat]?.getD default).op=1∧(p.code[((k:Nat):Int).toNat]?.getD default).to=(p.code[((k:Nat):Int).toNat]?.getD default).a)
  then vT p k++[p.code[((k:Nat):Int).toNat]?.getD default] else vT p k
theorem Ih (p:PV) (k:Nat):(vT p k).length≤k:=by
 induction k with
 | zero=>simp [vT]
 | succ k ih =>
   simp only [vT];split
   · rw [aB];simp only [bA,cE];omega
   omega
def Aj (p:PV):PV:=⟨p.ins,p.regs,vT p p.code.length,p.outs⟩
def wH (i:Sl.Instr):Prop:=i.op=1∧i.to=i.a
instance (i:Sl.Instr):Decidable (wH i):=inferInstanceAs (Decidable (_∧_))
theorem Ii (p:PV):∀ k,k≤p.code.length→∀ i∈vT p k,i∈p.code
 | 0,_,i,h=>by simp [vT] at h
 | k+1,hk,i,h=>by
   have hlt:k<p.code.length:=sN;have hel:p.code[(k:Int).toNat]?.getD default∈p.code:=by rw [aE,aA hlt,dZ];exact bT _
   simp only [vT] at h;split at h
   · rw [iA,eT] at h;rcases h with h | h
     · exact Ii p k sN i h
     rw [h];exact hel
   exact Ii p k sN i h
theorem BH {q:PV} (h:1≤q.ins∧q.ins≤q.regs∧q.regs≤128∧q.code.length≤16384∧1≤q.outs.length∧q.outs.length≤128) (ho:∀ r∈q.outs,0≤r∧r<q.regs) (hc:∀ i∈q.code,tB i q.regs=true):sP q=true:=by
 have h1:xC q=true:=by
  unfold xC;rw [aU,aT,eK];exact ⟨by omega,fun r hr=>by rw [aT];exact ho r hr⟩
 have h2:Ct q=none:=by
  unfold Ct;rw [gO];intro i hi;rw [hc i hi];rfl
 unfold sP uK;rw [aD (by rw [h1];decide),h2];rfl
theorem Qu {p:PV} (h:sP p=true):sP (Aj p)=true:=by
 obtain ⟨r1,r2,r3,r4,r5,r6,r7,r8⟩:=sT h;have hl:=Ih p p.code.length;exact BH ⟨r1,r2,r3,by show (vT p p.code.length).length≤16384;omega,r5,r6⟩ r7 (fun i hi=>r8 i (Ii p _ (aH _) i hi))
def nf (p:PV):List Sl.Instr→List Bool×List Bool
 | []=>(vI (List.replicate p.regs.toNat false) p.outs,[])
 | i :: l=>if (nf p l).1[i.to.toNat]?.getD default=true then (vI ((nf p l).1.set i.to.toNat false) (tC i),true :: (nf p l).2) else ((nf p l).1,false :: (nf p l).2)
theorem PS (p:PV) (l:List Sl.Instr):(nf p l).1.length=p.regs.toNat∧(nf p l).2.length=l.length:=by
 induction l with
 | nil=>simp [nf,xH]
 | cons i l ih =>
   simp only [nf];split
   · simp [xH,ih]
   simp [ih]
theorem Ut (p:PV):∀ j,j≤p.code.length→zJ p j=((nf p (p.code.drop (p.code.length - j))).1,List.replicate (p.code.length - j) false++(nf p (p.code.drop (p.code.length - j))).2)
 | 0,_=>by simp [zJ,nf]
 | j+1,hj=>by
   have ih:=Ut p j sN;obtain ⟨k,hk⟩:∃ k,k=p.code.length - (j+1):=⟨_,U⟩
   have hk1:p.code.length - j=k+1:=sN;have hk2:p.code.length - 1 - j=k:=sN;have hlt:k<p.code.length:=sN;rw [hk1] at ih;rw [←hk];have hd:p.code.drop k=p.code[k]?.getD default :: p.code.drop (k+1):=by
    rw [aA hlt,dZ];exact dM hlt
   show xX (zJ p j) ((p.code.length - 1 - j:Nat):Int) (p.code[p.code.length - 1 - j]?.getD default)=_;rw [hk2,ih,hd];generalize p.code[k]?.getD default=i;generalize p.code.drop (k+1)=l;unfold xX;simp only [nf];rw [List.replicate_succ'];split
   · simp only [aE];rw [aR,qP _ _ tU];simp
   simp
theorem Uu (p:PV):sV p=(nf p p.code).2:=by
 unfold sV;rw [Ut p p.code.length (aH _)];simp
def Xd (x:Sl.Instr×Bool):Option Sl.Instr:=if x.2=true∧¬wH x.1 then some x.1 else none
theorem Qv {i:Sl.Instr} {b:Bool} (h:b=true∧¬wH i):Xd (i,b)=some i:=aF h
theorem Ij {i:Sl.Instr} {b:Bool} (h:¬(b=true∧¬wH i)):Xd (i,b)=none:=aD h
def Kf (p:PV) (l:List Sl.Instr):List Sl.Instr:=(l.zip (nf p l).2).filterMap Xd
theorem Qw (p:PV):∀ k,k≤p.code.length→vT p k=((p.code.take k).zip ((sV p).take k)).filterMap Xd
 | 0,_=>by simp [vT]
 | k+1,hk=>by
   have hlt:k<p.code.length:=sN;have hnl:(sV p).length=p.code.length:=(wM p _).2;have hlt2:k<(sV p).length:=sN;have e1:p.code.take (k+1)=p.code.take k++[p.code[(k:Int).toNat]?.getD default]:=by
    rw [cL,aE,aA hlt];rfl
   have e2:(sV p).take (k+1)=(sV p).take k++[(sV p)[(k:Int).toNat]?.getD default]:=by
    rw [cL,aE,aA hlt2];rfl
   rw [e1,e2,List.zip_append (by simp;omega),List.filterMap_append,←Qw p k sN];simp only [mV,List.zip_nil_right,List.filterMap_cons,List.filterMap_nil];by_cases h:(sV p)[((k:Nat):Int).toNat]?.getD default=true∧¬wH (p.code[((k:Nat):Int).toNat]?.getD default)
   · rw [Qv h];exact aF h
   rw [Ij h];show vT p (k+1)=vT p k++[];rw [aY];exact aD h
theorem KC (p:PV):(Aj p).code=Kf p p.code:=by
 show vT p p.code.length=_;have hnl:(sV p).length=p.code.length:=(wM p _).2;rw [Qw p _ (aH _),aZ,←hnl,aZ,Uu];rfl
def zW (outs:List Int) (r:Int):List (Sl.Instr×Bool)→Bool
 | []=>decide (r∈outs)
 | (i,b) :: l=>(b && decide (r∈tC i)) || (!decide (i.to=r) && zW outs r l)
theorem Ik:∀ (rs:List Int) (l:List Bool) (k:Nat),k<l.length→(∀ r∈rs,0≤r)→(vI l rs)[k]?.getD default=(l[k]?.getD default || decide ((k:Int)∈rs))
 | [],l,k,hk,_=>by simp [vI]
 | r :: rs,l,k,hk,hr=>by
   have ih:=Ik rs (l.set r.toNat true) k (by simpa using hk) (fun x hx=>hr x (by simp [hx]));have e:vI l (r :: rs)=vI (l.set r.toNat true) rs:=rfl;rw [e,ih,cF];have h0:=hr r tU;by_cases h:r.toNat=k
   · have h1:(k:Int)=r:=sN;have h2:(k:Int)∈r :: rs:=by rw [h1];simp
     rw [aF h,aF (by omega),bL h2];simp
   have h1:(k:Int)≠r:=sN;rw [aD h];simp [h1]
theorem PT {i:Sl.Instr} {regs:Int} (h:tB i regs=true):∀ r∈tC i,0≤r:=fun r hr=>(Oi h r hr).1
theorem Qx {A:List Bool} {i:Sl.Instr} {regs:Int} (hA:(A.length:Int)=regs) (hm:tB i regs=true) {r:Int} (hr:0≤r∧r<regs) :
 (vI (A.set i.to.toNat false) (tC i))[r.toNat]?.getD default=(decide (r∈tC i) || (!decide (i.to=r) && A[r.toNat]?.getD default)):=by
 have hto:0≤i.to∧i.to<regs:=by rw [tM] at hm;exact ⟨hm.1.2.2.1,hm.1.2.2.2.1⟩
 rw [Ik _ _ _ (by rw [aG];omega) (PT hm),cF];have e1:((r.toNat:Nat):Int)=r:=sN;rw [e1];by_cases h:i.to=r
 · subst h;rw [aF rfl,aF (by omega)];simp
 rw [aD (by omega)];simp [h,Bool.or_comm]
theorem Uv {regs:Int} (h0:0≤regs) {outs:List Int} (ho:∀ r∈outs,0≤r∧r<regs) {r:Int} (hr:0≤r∧r<regs):(vI (List.replicate regs.toNat false) outs)[r.toNat]?.getD default=decide (r∈outs):=by
 rw [Ik _ _ _ (by simp;omega) (fun x hx=>(ho x hx).1)];have e1:((r.toNat:Nat):Int)=r:=sN;rw [e1];have:(List.replicate regs.toNat false)[r.toNat]?.getD default=false:=by
  rw [fS];split <;> rfl
 rw [this,Bool.false_or]
theorem PU {p:PV} (h0:0≤p.regs) (ho:∀ r∈p.outs,0≤r∧r<p.regs):∀ (l:List Sl.Instr),(∀ i∈l,tB i p.regs=true)→∀ r,0≤r∧r<p.regs→(nf p l).1[r.toNat]?.getD default=zW p.outs r (l.zip (nf p l).2)
 | [],_,r,hr=>by simpa [nf,zW] using Uv h0 ho hr
 | i :: l,hl,r,hr=>by
   have ih:=PU h0 ho l (fun j hj=>hl j (by simp [hj]));have hm:=hl i tU;have hto:0≤i.to∧i.to<p.regs:=by rw [tM] at hm;exact ⟨hm.1.2.2.1,hm.1.2.2.2.1⟩
   have hlen:((nf p l).1.length:Int)=p.regs:=by rw [(PS p l).1];omega
   by_cases h:(nf p l).1[i.to.toNat]?.getD default=true
   · have e:nf p (i :: l)=(vI ((nf p l).1.set i.to.toNat false) (tC i),true :: (nf p l).2):=by simp only [nf];rw [aF h]
     rw [e,Qx hlen hm hr,ih r hr];simp [zW]
   have e:nf p (i :: l)=((nf p l).1,false :: (nf p l).2):=by simp only [nf];rw [aD h]
   rw [e];show (nf p l).1[r.toNat]?.getD default=zW p.outs r ((i,false) :: l.zip (nf p l).2);simp only [zW,Bool.false_and,Bool.false_or];by_cases ht:i.to=r
   · subst ht;simpa using h
   rw [ih r hr];simp [ht]
def rf (p:PV):List Sl.Instr→List Bool
 | []=>[]
 | i :: l=>zW p.outs i.to (l.zip (rf p l)) :: rf p l
theorem WS {p:PV} (h0:0≤p.regs) (ho:∀ r∈p.outs,0≤r∧r<p.regs):∀ (l:List Sl.Instr),(∀ i∈l,tB i p.regs=true)→rf p l=(nf p l).2
 | [],_=>by simp [rf,nf]
 | i :: l,hl=>by
   have ih:=WS h0 ho l (fun j hj=>hl j (by simp [hj]));have hm:=hl i tU;have hto:0≤i.to∧i.to<p.regs:=by rw [tM] at hm;exact ⟨hm.1.2.2.1,hm.1.2.2.2.1⟩
   have hg:=PU h0 ho l (fun j hj=>hl j (by simp [hj])) i.to hto;simp only [rf];rw [ih,←hg];by_cases h:(nf p l).1[i.to.toNat]?.getD default=true
   · have e:nf p (i :: l)=(vI ((nf p l).1.set i.to.toNat false) (tC i),true :: (nf p l).2):=by simp only [nf];rw [aF h]
     rw [e,h]
   have e:nf p (i :: l)=((nf p l).1,false :: (nf p l).2):=by simp only [nf];rw [aD h]
   have h':(nf p l).1[i.to.toNat]?.getD default=false:=by simpa using h
   rw [e,h']
theorem KD {p:PV} (h:sP p=true):sV p=rf p p.code:=by
 obtain ⟨r1,r2,r3,r4,r5,r6,r7,r8⟩:=sT h;rw [Uu,WS sN r7 p.code r8]
theorem GZ (p:PV):∀ (l:List Sl.Instr) (m:Nat),(rf p l).drop m=rf p (l.drop m)
 | [],m=>by simp [rf]
 | i :: l,0=>tU
 | i :: l,m+1=>by
   show (_ :: rf p l).drop (m+1)=rf p ((i :: l).drop (m+1));rw [oQ,oQ];exact GZ p l m
def zK (p:PV) (r:Int) (j:Nat):Bool:=zW p.outs r ((p.code.drop j).zip (rf p (p.code.drop j)))
theorem Il (p:PV) (r:Int) {j:Nat} (h:p.code.length≤j):zK p r j=decide (r∈p.outs):=by
 unfold zK;rw [eX h];rfl
theorem WT (p:PV) {j:Nat} (h:j<p.code.length):rf p (p.code.drop j)=zK p (p.code[j]?.getD default).to (j+1) :: rf p (p.code.drop (j+1)):=by
 rw [dM h,aA h,dZ];rfl
theorem Fj (p:PV) (r:Int) {j:Nat} (h:j<p.code.length):zK p r j=((zK p (p.code[j]?.getD default).to (j+1) && decide (r∈tC (p.code[j]?.getD default))) || (!decide ((p.code[j]?.getD default).to=r) && zK p r (j+1))):=by
 have h1:=WT p h;unfold zK;rw [h1,dM h,mV,aA h,dZ];rfl
theorem dn (G:A3) (p:PV) (ac ao:Option Addr) (cc co:Nat) (hc:Arr G ac p.code) (ho:Arr G ao p.outs) (h1:p.code.length≤1099511627776) (h2:p.outs.length≤1099511627776) :
 Does Tryz.prog 186 [.agg (H8 p ac cc ao co)] G [] (fun v G' Ho=>v=.bool (decide (sP p=true))∧G'=G∧Ho=[]):=by
 refine D0 Tryz.func186 Tryz.ntmps186 fun w=>?_;refine aI 2 [] ?_;refine dV 0 fun b1=>?_;refine aL 6 [0] ?_;refine cI U (ZM _ _ _ _ _ _ sO sO sN sN) ?_;refine aS 15 [] ?_;refine cV ?_;refine ⟨?_,U,U⟩;cases h:(uK p).2 <;> simp [sP,h]
def Xe (t:Tab) (bt bk bf:Nat) (a:Option Addr) (c:Nat) (junk:List Value):Hp:=
 [(0,some bt,.cells #[.slice a t.held.length c,.map (some bk),.map (some bf),.int .i64 t.next] 168),(1,a.map (·.block),Row 3 t.held junk),(2,some bk,B0 t.known),(3,some bf,B0 t.first)]
theorem c97 (G:A3) (p:PV) (ac ao:Option Addr) (cc co:Nat) (hr:0≤p.ins∧p.ins≤p.regs∧p.regs≤128) :
 Does Tryz.prog 97 [.agg (H8 p ac cc ao co)] G [] (fun v G' Ho=>∃ bt bk bf a c junk,v=.pointer (some ⟨bt,0,none⟩)∧
  A4 a c (start p) junk∧Ho=Xe ⟨start p,[],[],p.ins+1⟩ bt bk bf a c junk∧G'=G):=by
 refine D0 Tryz.func97 Tryz.ntmps97 fun w=>?_;refine eJ 1 (Row 3 ([]:List Int) []) ?_;refine aI 2 [] ?_;refine dV 2 fun b1=>?_;refine aL 5 [] ?_;refine Wl.makeMap (κ:=K4) 3 U fun b2=>?_;refine Wl.makeMap (κ:=K4) 4 U fun b3=>?_;refine aC 3 [2] ?_;refine aQ (bP (cs:=[_,_,_,_]) T.st168 U U U) ?_;refine dV 5 fun b4=>?_;refine bB 12 [2] ?_;have hsl:(start p).length=p.regs.toNat:=by simp [start]
 refine gX (ι:=Nat×List Int×Option Addr×Nat×List Value) (fun (k,xs,a,c,junk)=>([(14,.int .i64 (k:Int)),(13,.int .i64 p.regs),(3,.pointer (some (Addr.mk b4 0 none))),(2,.pointer none),(1,.pointer (some ⟨b1,0,none⟩))],[(1,a.map (·.block),Row 3 xs junk),(5,some b4,.cells #[.slice a xs.length c,.map (some b2),.map (some b3),.int .i64 (p.ins+1)] 168),(4,some b3,Go.Sl.B0 (κ:=Go.Sl.K4) ([])),(3,some b2,Go.Sl.B0 (κ:=Go.Sl.K4) ([])),(2,some b1,.cells (H8 p ac cc ao co) 26)])) (fun (k,xs,a,c,junk)=>k≤p.regs.toNat∧xs=(start p).take k∧A4 a c xs junk) (fun (k,xs,a,c,junk)=>p.regs.toNat - k) ((0,[],none,0,[])) (⟨aM _,U,eG⟩) fun ⟨k,xs,a,c,junk⟩=>fun hk=>?_;obtain ⟨hk1,hxs,ho⟩:=hk;have hlen:xs.length=k:=by rw [hxs,bG];omega
 refine bI 6 [] ?_;refine cW (fun hc1=>?_) fun hc1=>?_;refine bI 10 [] ?_;refine dE [2,3,4,5,1] [(5,13),(1,10)] T.mixed [[0],[1],[2],[3],[4,5],[5],[6],[7,2]] ?_;refine dW 8 [] U (Qy.min U U) ?_;refine bQ 9 ?_;refine cZ (α:=Int) 6 [(if Go.Proofs.YtkdelpdbjfpgmaaGreatDoor.PV.ins p<(↑k:Int) then Go.Proofs.YtkdelpdbjfpgmaaGreatDoor.PV.ins p else (↑k:Int))] U T.sl24 T.el3 U U U U U fun b5=>?_;refine cS 10 ?_;refine kH (α:=Int) 1 T.sl24 T.el3 (dT 6 U) fun a1 c1 junk1 ho1=>?_;refine bC ?_;refine dK [[11],[12]] ?_;refine bQ 13 ?_;refine aC 1 [5] ?_;refine fD ?_;refine eE 6 [] ?_;rotate_left;refine bE 12 [] ?_;refine mK [5,1,3,4] sY (cH (.inr U) U (.tmp U) (mD 0 _) ?_);rotate_left
 · refine cK ((k+1,_,a1,c1,junk1)) ?_ ?_
   · have hst:(start p).take (k+1)=(start p).take k++[if p.ins<(k:Int) then p.ins else (k:Int)]:=by
      rw [cL];have hkl:k<p.regs.toNat:=sN;simp [start,hkl]
     refine ⟨by omega,?_,ho1⟩;rw [hst,hxs]
   show p.regs.toNat - (k+1)<p.regs.toNat - k;omega
 have hk:k=p.regs.toNat:=sN;have htk:xs=start p:=by rw [hxs];exact fH sN
 rw [htk] at ho ⊢;exact ⟨b4,b2,b3,a,c,junk,U,ho,U,U⟩
theorem VB (G:A3) (t:Tab) (bt bk bf:Nat) (a:Option Addr) (c:Nat) (junk:List Value) (v:Int) (ho:A4 a c t.held junk) (hl:t.held.length≤128) :
 Does Tryz.prog 100 [.pointer (some ⟨bt,0,none⟩),.int .i64 v] G (Xe t bt bk bf a c junk) (fun r G' Ho=>r=.int .i64 (holder t.held v)∧G'=G∧Ho=Xe t bt bk bf a c junk):=by
 refine D0 Tryz.func100 Tryz.ntmps100 fun w=>?_;refine bI 5 [] ?_;refine mP ?_;refine bI 15 [0] ?_;refine gX (ι:=Nat) (fun k=>([(12,.int .i64 (k:Int)),(11,.int .i64 (↑(List.length (Tab.held t)):Int)),(10,.slice a (List.length (Tab.held t)) c),(1,.int .i64 v)],[(0,some bt,.cells #[.slice a (List.length (Tab.held t)) c,Go.Value.map (some bk),Go.Value.map (some bf),.int .i64 (Tab.next t)] 168),(1,Option.map (fun x=>Go.Addr.block x) a,Row (α:=Int) 3 (Tab.held t) (junk)),(2,some bk,Go.Sl.B0 (κ:=Go.Sl.K4) (Tab.known t)),(3,some bf,Go.Sl.B0 (κ:=Go.Sl.K4) (Tab.first t))])) (fun k=>k≤t.held.length∧(t.held.take k).all (fun x=>!decide (x=v))=true) (fun k=>t.held.length - k) (0) (⟨aM _,U⟩) fun k=>fun hk=>?_;obtain ⟨hk1,hk2⟩:=hk;refine bI 6 [] ?_;refine cW (fun hc1=>?_) fun hc1=>?_;refine aI 7 [] ?_;refine iE (α:=Int) T.sl24 ?_;refine nA 1 0 T.one3 ?_;refine bB 12 [] ?_;refine cW (fun hc2=>?_) fun hc2=>?_;refine bE 8 [] ?_;rotate_left;refine bE 14 [] ?_;refine jK ?_;refine nP [0,1,2,3] ?_;rotate_left;refine bE 11 [] ?_;refine jK ?_;refine nP [0,1,2,3] ?_;rotate_left
 · refine cK (k+1) ?_ ?_
   · refine ⟨by omega,?_⟩;rw [Jm _ sN,hk2];simpa using hc2
   omega
 · refine ⟨?_,U,U⟩;have:=Zm (p:=fun x=>!decide (x=v)) (l:=t.held) (k:=k) sN hk2 (by simpa using hc2);simp only [Bool.not_not] at this;simp [holder,this]
 refine ⟨?_,U,U⟩;have hk:k=t.held.length:=sN;subst hk;rw [aZ] at hk2;have:=Ts hk2;simp only [Bool.not_not] at this;simp [holder,this]
theorem dq (G:A3) (t:Tab) (bt bk bf:Nat) (a:Option Addr) (c:Nat) (junk:List Value) (i:Sl.Instr) (ho:A4 a c t.held junk) (hl:t.held.length≤128) (hm:tB i t.held.length=true) :
 Does Tryz.prog 151 [.pointer (some ⟨bt,0,none⟩),.agg (A2.enc i).toArray] G (Xe t bt bk bf a c junk) (fun r G' Ho=>r=B4.val (keyOf t.held i)∧G'=G∧Ho=Xe t bt bk bf a c junk):=by
 rw [tM] at hm;obtain ⟨⟨hop1,hop2,hto1,hto2,ha1,ha2⟩,hb⟩:=hm;have hb:i.op=3∨i.op=4→0≤i.b∧i.b<t.held.length:=fun h=>by rw [aF h] at hb;omega
 have two:=Zn i;refine D0 Tryz.func151 Tryz.ntmps151 fun w=>?_;refine aI 2 [] ?_;refine dV 4 fun b1=>?_;refine aO 5 U T.zero230 fun b2=>?_;refine bB 3 [] ?_;refine dE [3,2,1,0,4,5] [] T.mixed [[0],[1,4],[2],[3],[4],[5,0],[6],[7,4]] ?_;refine fJ (α:=Int) 8 T.sl24 ?_;refine dW 9 [1,0] U (fF 1 0 T.one3 U U sO sN U U) ?_;refine dK [[10],[11,4]] ?_;refine dW 12 [] U (bP (cs:=[_,_,_,_]) T.st230 U U U) ?_;refine bQ 13 ?_;refine aO 6 U T.zero230 fun b3=>?_;refine cS 14 ?_;refine aC 1 [6] ?_;refine fD ?_;refine lQ 5 [4] ?_;refine bV 7 U (IT _ _) fun v1 G1 Ho1 hle1 hp=>?_;obtain ⟨ad1,cd1,junk1,rfl,hoa1,rfl,rfl⟩:=hp;refine bB 4 [] ?_;refine cW (fun hc1=>?_) fun hc1=>?_;refine dE [3,2,1,0,4,5,6,8] [(6,9)] T.mixed [[0],[1],[2],[3,0],[4],[5,4]] ?_;refine fJ (α:=Int) 6 T.sl24 ?_;refine dW 7 [1,0] U (fF 1 0 T.one3 U U sO sN U U) ?_;refine dK [[8]] ?_;refine bQ 9 ?_;refine aC 1 [6] ?_;refine fD ?_;refine lQ 8 [4] ?_;apply bX 6 35 41 U;intro hg1;refine aC 11 [6,6] ?_;exact dB 6 0;intro hg1;refine aC 6 [] ?_;exact dB 6 0;refine bB 2 [] ?_;refine cW (fun hc2=>?_) fun hc2=>?_;refine bE 18 [6,6,6,6,6,5] ?_;refine cH (.inr U) (Ho:=Hp.only _ [0,1,2,3]) U (.agg 5 U U T.agg230) (aV _ _) ?_;rotate_left;refine bE 9 [6,5] ?_;refine cH (.inr U) (Ho:=Hp.only _ [0,1,2,3]) U (.agg 5 U U T.agg230) (aV _ _) ?_;rotate_left;refine aI 9 [4] ?_;refine mZ 35 ?_;refine aS 18 [0,6,5] ?_;refine cH (.inr U) (Ho:=Hp.only _ [0,1,2,3]) U (.agg 5 U U T.agg230) (aV _ _) ?_;rotate_left
 · refine ⟨?_,U,U⟩;have h:keyOf t.held i=⟨i.op,t.held[i.b.toNat]?.getD default,t.held[i.a.toNat]?.getD default,i.c⟩:=by
    unfold keyOf;rw [aF (by omega)];exact aF hc2
   rw [h];rfl
 · refine ⟨?_,U,U⟩;have h:keyOf t.held i=⟨i.op,t.held[i.a.toNat]?.getD default,t.held[i.b.toNat]?.getD default,i.c⟩:=by
    unfold keyOf;rw [aF (by omega)];exact aD hc2
   rw [h];rfl
 refine ⟨?_,U,U⟩;have h:keyOf t.held i=⟨i.op,t.held[i.a.toNat]?.getD default,-1,i.c⟩:=by
  unfold keyOf;rw [aD (by omega)]
 rw [h];rfl
theorem YR (G:A3) (a:Option Addr) (c:Nat) (xs:List Int) (hx:Arr G a xs) (hl:xs.length≤1099511627776) :
 Does Tryz.prog 53 [.slice a xs.length c] G [] (fun v G' Ho=>∃ b d j,v=.slice b xs.length d∧A4 b d xs j∧Ho=[(0,b.map (·.block),Row 3 xs j)]∧G'=G):=by
 refine D0 Tryz.func53 Tryz.ntmps53 fun w=>?_;refine aI 9 [] ?_;refine aQ (jL T.sl24 U U) ?_;refine bB 2 [] ?_;refine cW (fun hc1=>?_) fun hc1=>?_;refine bE 7 [] ?_;rotate_left;refine aI 4 [] ?_;refine rG 0 U T.sl24 fun b1=>?_;refine aC 1 [] ?_;rotate_left
 · subst hc1;have hn:xs=[]:=by
    rcases hx.2 with h | ⟨b,o,h,_⟩
    · exact dO h
    cases h
   subst hn;refine Lc 0 (Row 3 ([]:List Int) []) ?_;refine nP [0] ?_;exact ⟨none,0,[],U,eG,U,U⟩
 refine oW 0 (Row 3 ([]:List Int) []) U U ?_;refine eH (α:=Int) 0 U T.sl24 T.el3 U U U (fK tU) (lM sO) (by simp only [cE];omega) (by simp only [cE,maxLen];omega) fun a1 c1 junk1 ho1=>?_;refine aS 4 [] ?_;refine nP [0] ?_;exact ⟨_,_,_,U,ho1,U,U⟩
theorem ky (G:A3) (xs ys:List Int) (a b:Option Addr) (c d:Nat) (hx:Arr G a xs) (hy:Arr G b ys) (h1:xs.length≤1099511627776) (h2:ys.length≤1099511627776) :
 Does Tryz.prog 86 [.slice a xs.length c,.slice b ys.length d] G [] (fun v G' Ho=>v=.bool (decide (xs=ys))∧G'=G∧Ho=[]):=by
 refine D0 Tryz.func86 Tryz.ntmps86 fun w=>?_;refine bI 15 [] ?_;refine cW (fun hc1=>?_) fun hc1=>?_;refine bE 7 [] ?_;refine cV ?_;rotate_left;refine bI 11 [] ?_;rotate_left
 · have:xs≠ys:=by rintro rfl;exact hc1 U
   exact ⟨by simp [this],U,U⟩
 have hl:xs.length=ys.length:=sN;clear hc1;refine gX (ι:=Nat) (fun k=>([(13,.int .i64 (k:Int)),(12,.int .i64 (xs.length:Int)),(0,.slice a (List.length xs) c),(1,.slice b (List.length ys) d)],[])) (fun k=>k≤xs.length∧xs.take k=ys.take k) (fun k=>xs.length - k) (0) (⟨aM _,U⟩) fun k=>fun hk=>?_;obtain ⟨hk1,hk2⟩:=hk;refine bI 6 [] ?_;refine cW (fun hc1=>?_) fun hc1=>?_;refine bI 11 [] ?_;refine dE [] [] T.mixed [[0],[1]] ?_;refine mL (α:=Int) 2 T.sl24 ?_;refine rC 3 [] 0 T.one3 ?_;refine dK [[4],[5]] ?_;refine mL (α:=Int) 6 T.sl24 ?_;refine rC 7 [] 0 T.one3 ?_;refine dK [[8]] ?_;refine dG ?_;refine cN ?_;refine cW (fun hc2=>?_) fun hc2=>?_;refine bE 11 [] ?_;refine cV ?_;rotate_left;refine bE 7 [] ?_;rotate_left;refine bE 11 [] ?_;refine cV ?_;rotate_left
 · have:xs≠ys:=by rintro rfl;exact hc2 U
   exact ⟨by simp [this],U,U⟩
 · refine cK (k+1) ?_ ?_
   · exact ⟨by omega,Jn sN sN hk2 (fN.1 hc2)⟩
   omega
 have hk:k=xs.length:=sN;subst hk;rw [aZ,hl,aZ] at hk2;exact ⟨by simp [hk2],U,U⟩
theorem c85 (G:A3) (xs ys:List Sl.Instr) (a b:Option Addr) (c d:Nat) (hx:Arr G a xs) (hy:Arr G b ys) (h1:xs.length≤1099511627776) (h2:ys.length≤1099511627776) :
 Does Tryz.prog 85 [.slice a xs.length c,.slice b ys.length d] G [] (fun v G' Ho=>v=.bool (decide (xs=ys))∧G'=G∧Ho=[]):=by
 refine D0 Tryz.func85 Tryz.ntmps85 fun w=>?_;refine bI 15 [] ?_;refine cW (fun hc1=>?_) fun hc1=>?_;refine bE 7 [] ?_;refine cV ?_;rotate_left;refine bI 11 [] ?_;rotate_left
 · have:xs≠ys:=by rintro rfl;exact hc1 U
   exact ⟨by simp [this],U,U⟩
 have hl:xs.length=ys.length:=sN;clear hc1;refine gX (ι:=Nat) (fun k=>([(13,.int .i64 (k:Int)),(12,.int .i64 (xs.length:Int)),(0,.slice a (List.length xs) c),(1,.slice b (List.length ys) d)],[])) (fun k=>k≤xs.length∧xs.take k=ys.take k) (fun k=>xs.length - k) (0) (⟨aM _,U⟩) fun k=>fun hk=>?_;obtain ⟨hk1,hk2⟩:=hk;refine bI 6 [] ?_;refine cW (fun hc1=>?_) fun hc1=>?_;refine bI 11 [] ?_;refine dE [] [] T.mixed [[0],[1]] ?_;refine mL (α:=Instr) 2 T.sl23 ?_;refine rL 3 T.agg91 ?_;refine dK [[4],[5]] ?_;refine mL (α:=Instr) 6 T.sl23 ?_;refine rL 7 T.agg91 ?_;refine dW 8 [] U (Mx T.ai91 U U) ?_;refine dG ?_;refine cN ?_;refine cW (fun hc2=>?_) fun hc2=>?_;refine bE 11 [] ?_;refine cV ?_;rotate_left;refine bE 7 [] ?_;rotate_left;refine bE 11 [] ?_;refine cV ?_;rotate_left
 · have:xs≠ys:=by rintro rfl;exact hc2 U
   exact ⟨by simp [this],U,U⟩
 · refine cK (k+1) ?_ ?_
   · exact ⟨by omega,Jn sN sN hk2 (fN.1 hc2)⟩
   omega
 have hk:k=xs.length:=sN;subst hk;rw [aZ,hl,aZ] at hk2;exact ⟨by simp [hk2],U,U⟩
theorem kz (G:A3) (p q:PV) (ac ao bc bo:Option Addr) (cc co dc do_:Nat) (hc:Arr G ac p.code) (ho:Arr G ao p.outs) (hc':Arr G bc q.code) (ho':Arr G bo q.outs) (h1:p.code.length≤1099511627776) (h2:p.outs.length≤1099511627776)
 (h3:q.code.length≤1099511627776) (h4:q.outs.length≤1099511627776) :
 Does Tryz.prog 42 [.agg (H8 p ac cc ao co),.agg #[.int .i64 q.ins,.int .i64 q.regs,.slice bc q.code.length dc,.slice bo q.outs.length do_]] G []
  (fun v G' Ho=>v=.bool (decide (p=q))∧G'=G∧Ho=[]):=by
 refine D0 Tryz.func42 Tryz.ntmps42 fun w=>?_;refine aI 2 [] ?_;refine dV 0 fun b1=>?_;refine dV 1 fun b2=>?_;refine aL 11 [0,1] ?_;apply bX 6 10 16 U;intro hg1;refine aC 11 [0,1] ?_;exact dB 6 0;intro hg1;refine aC 6 [] ?_;exact dB 6 0;refine aC 1 [] ?_;apply bX 6 17 23 U;intro hg1;refine aC 9 [0,1] ?_;refine cI U (c85 _ _ _ _ _ _ _ sO sO sN sN) ?_;refine aC 1 [] ?_;exact dB 6 0;intro hg1;refine aC 6 [] ?_;exact dB 6 0;refine aC 1 [] ?_;apply bX 6 24 30 U;intro hg1;refine aC 9 [0,1] ?_;refine cI U (ky _ _ _ _ _ _ _ sO sO sN sN) ?_;refine aC 1 [] ?_;exact dB 6 0;intro hg1;refine aC 6 [] ?_;exact dB 6 0;refine aS 4 [] ?_;refine cV ?_;refine ⟨?_,U,U⟩;cases p;cases q;simp [and_assoc]
end Go.Proofs.YtkdelpdbjfpgmaaGreatDoor
