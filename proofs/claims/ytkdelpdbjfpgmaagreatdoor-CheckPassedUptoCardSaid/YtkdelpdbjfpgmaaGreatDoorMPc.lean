/- vD of the proof (part 3): what the rows' text needs of the texts that lead to it. -/
import Derived.Test.YtkdelpdbjfpgmaaGreatDoorMPb
set_option linter.unusedVariables false
set_option linter.unusedSimpArgs false
set_option linter.unusedSectionVars false
set_option maxHeartbeats 4000000
noncomputable section
set_option maxRecDepth 100000
namespace Go.Sl
open Go Go.ChangeShapes Go.WideShapes Go.RowKit
def Gp (W:World):A3:=fun b=>W.heap[b]?
theorem aa (W:World):B3 [] (Gp W) W:=
 ⟨fun t b o h=>by simp [Hp.get] at h,fun t t' b o o' h=>by simp [Hp.get] at h,fun b o h=>h,fun t b o h=>by simp [Hp.get] at h⟩
theorem IC {W W':World} (h:E2 (Hp.has []) W W'):Go.RowKit.Below W.heap.size W W':=
 ⟨h.os,h.tape,h.output,h.size,fun k hk=>h.same k hk (fun ⟨t,o,hx⟩=>by simp [Hp.get] at hx)⟩
section
variable {H:Type} {enc:TypeId×Value→H} {P:Program}
theorem Gq (hl:laidOutB P=true) {W W':World} {sp':Nat→Bool}:∀ {ts:List TypeId} {vs:List Value} {ds:List (DataW H)} {ps:List MemPlace},(ts.all fun t=>P.readableRec t && decide (t<P.types.size))=true→
 DataW.TrodAll enc P W 0 (fun _=>true) true ts vs ds ps→(∀ p∈ps,W.sameAt W' p)→(∀ p∈ps,sp' p.block=true)→DataW.TrodAll enc P W' 0 sp' true ts vs ds ps
 | [],_,_,_,_,h,_,_=>by
   obtain ⟨rfl,rfl,rfl⟩:=trodAll_nil h;exact trodAll_mk0
 | t :: ts,_,_,_,hr,h,hs,hp=>by
   obtain ⟨v,vs,d,ds,p,q,rfl,rfl,rfl,h1,h2⟩:=trodAll_cons h;simp only [kK,aW,aV] at hr;exact ⟨p,q,WideElems.Trod_stays hl hr.1.1 hr.1.2 h1 (fun x hx=>hs x (by simp [hx])) (fun x hx=>hp x (by simp [hx])),
    Gq hl hr.2 h2 (fun x hx=>hs x (by simp [hx])) (fun x hx=>hp x (by simp [hx])),F9⟩
theorem Mo {w:World} {base:Nat} {sp:Nat→Bool} {hd:Bool}:∀ {ts:List TypeId} {vs:List Value} {ds:List (DataW H)} {ps:List MemPlace},DataW.TrodAll enc P w base sp hd ts vs ds ps→ds.length=ts.length
 | [],_,_,_,h=>by obtain ⟨rfl,rfl,rfl⟩:=trodAll_nil h;rfl
 | t :: ts,_,_,_,h=>by
   obtain ⟨v,vs,d,ds,p,q,rfl,rfl,rfl,h1,h2⟩:=trodAll_cons h;simp [Mo h2]
theorem ID {f:Func} {n:FuncId} {s:ChangeSpec} {tb:TypeId} {apart fresh handsOn again:Bool} (hl:laidOutB P=true) (hr:(f.params.toList.all fun t=>P.readableRec t && decide (t<P.types.size))=true) (hres:f.resultTypes=#[tb]) (hb:P.underlying tb=some .bool)
 (hv:s.vars=[]) (hs:∀ ds:List (DataW H),ds.length=f.params.toList.length→s.fn H ds={ results:=[.lit (.bool true)],args:=ds }) {W:World} {args:Array Value} {ds gs:List (DataW H)} {before:List MemPlace}
 (hW:DataW.Whole enc P f.params.toList s.vars apart W args.toList ds gs before) (hd:Does P n args.toList (Gp W) [] (fun v _ _=>v=.bool true)) :
 Calls P n args W fun e W'=>∃ v,e=.returned v∧s.post enc P f apart fresh handsOn again W args v W':=by
 refine (hd W (aa W)).mono fun e W' ⟨v,G',Ho,he,q1,q2,q3,q4,q5,hvv⟩=>⟨v,he,?_⟩
 subst hvv;have hbel:=IC q3;have hW':=hW;have hlt:=hW.lt;obtain ⟨p,q,hA,hV,rfl,hz,hn⟩:=hW;rw [hv] at hV;obtain ⟨rfl,rfl⟩:=trodVars_none hV;simp only [bB] at hW' hlt hz hn;have hlen:=Mo hA;have hspec:=hs ds hlen;have hres':∀ (b:Nat) (sp:Nat→Bool) (hd:Bool),DataW.TrodAll enc P W' b sp hd f.resultTypes.toList ((Value.bool true).resultList f.resultTypes.size) (s.fn H (ds++[])).results []:=fun b sp hd=>by
  rw [bB,hspec,hres];exact ⟨[],[],shut_bool hb _,trodAll_mk0,F9⟩
 have hargs:∀ sp:Nat→Bool,(∀ x∈p,sp x.block=true)→DataW.TrodAll enc P W' 0 sp true f.params.toList args.toList (s.fn H (ds++[])).args p:=fun sp hsp=>by
  rw [bB,hspec];exact Gq hl hr hA (fun x hx=>hbel.same (hlt x hx)) hsp
 have hvars:∀ sp:Nat→Bool,DataW.TrodVars enc P W' sp s.vars (s.fn H (ds++[])).vars []:=fun sp=>by
  rw [bB,hspec,hv];exact F9
 have hold:∀ x∈p,(fun b=>decide (b<W.heap.size)) x.block=true:=fun x hx=>by simpa using hlt x hx
 refine ⟨ds,[],p,[],p,[],by simpa using hW',hres' _ _ _,hargs _ hold,hvars _,World.keptBut_mono (fun x hx=>⟨hx,.inr (by simpa using hx)⟩) (hbel.frame _),fun _=>?_⟩;refine ⟨ok_one hres F9 (okWide_bool_mk hb _),_,_,([]++p)++[],⟨[]++p,[],trodAll_append (hargs _ (fun _ _=>rfl)) (hres' _ _ _),hvars _,F9,?_,?_⟩,?_⟩
 · intro b off hp;have hp':MemPlace.cell b off∈p:=by simpa using hp
   rw [hbel.frozen (by exact hlt _ hp')];exact hz b off hp'
 · intro ha;simpa using hn ha
 intro x hx _;simpa using hx
end
theorem Pa {W:World} {b o:Nat} {v:Value} (h:W.cell? ⟨b,o,none⟩=some v):(Gp W).cell b o=some v:=by
 unfold World.cell? at h;unfold A3.cell Gp;split at h
 · rename_i c t fz hb;rw [show W.heap[b]?=some (.cells c t fz) from hb];exact h
 cases h
theorem Sy {W:World} {a:Addr} {v:Value} (h:W.cell? a=some v):a.spot=none:=by
 unfold World.cell? at h;split at h
 · cases hs:a.spot with
   | none=>rfl
   | some x=>simp [hs] at h
 cases h
theorem MG {a:Addr} {i:Nat} (h:(a.add i).spot=none) (ha:i=0∨True):a.add i=⟨a.block,a.off+i,none⟩:=by
 unfold Addr.add at h ⊢;split
 · rename_i h0;subst h0;rw [aE rfl] at h;cases a;simp_all
 rfl
section
variable {H:Type} {enc:TypeId×Value→H} {P:Program} {α:Type} [A2 α] [Inhabited α]
def Dec (enc:TypeId×Value→H) (P:Program) (W:World) (E:TypeId) (Good:α→DataW H→Prop):Prop:=
 ∀ (n:Nat) (cs:List Value) (x:DataW H×List MemPlace),DataW.trod enc P W 0 (fun _=>true) true n E cs=some x→∃ y:α,cs=A2.enc y∧Good y x.1
theorem Vq {W:World} {b o:Nat} {xs:List α} (h:∀ i,i<xs.length→∀ j,j<A2.sz α→W.cell? ⟨b,o+(i*A2.sz α+j),none⟩=(A2.enc (xs[i]?.getD default))[j]?) (h0:0<A2.sz α):(Gp W).row b o (tV xs):=by
 intro q v hq;have hlt:q<(tV xs).length:=(bI.1 hq).1;rw [tP] at hlt;have h1:q=(q / A2.sz α)*A2.sz α+q % A2.sz α:=by rw [Nat.mul_comm];exact (oL q _).symm
 have h2:q % A2.sz α<A2.sz α:=Nat.mod_lt _ h0;have h3:q / A2.sz α<xs.length:=(Nat.div_lt_iff_lt_mul h0).2 hlt;have h4:=Ee xs _ _ h3 h2;rw [←h1,hq] at h4;have h5:=h _ h3 _ h2;rw [←h1,←h4] at h5;exact Pa h5
theorem MH {W:World} {T E:TypeId} {Good:α→DataW H→Prop} {fuel:Nat} {cs:List Value} {x:DataW H×List MemPlace} (ht:P.underlying T=some (.slice E)) (hsz:P.cellsOf E=A2.sz α) (h0:0<A2.sz α)
 (dec:Dec (α:=α) enc P W E Good) (h:DataW.trod enc P W 0 (fun _=>true) true fuel T cs=some x) :
 ∃ (a:Option Addr) (cap:Nat) (xs:List α),cs=[.slice a xs.length cap]∧Arr (Gp W) a xs∧xs.length≤cap∧
  ((x.1=.nil∧xs=[])∨∃ l r,x.1=.slice l r∧l.length=xs.length∧∀ i,i<xs.length→∃ d,l[i]?=some d∧Good (xs[i]?.getD default) d):=by
 rcases Deep.open_slice ht h with ⟨rfl,rfl⟩ | ⟨a,len,cap,m,n,D,Pl,rfl,hb,hlc,hm,hmm,rfl,hx⟩
 · exact ⟨none,0,[],F9,kG _,aI _,.inl ⟨F9,F9⟩⟩
 have hml:m=cap:=by rw [hmm];simp
 have hel:∀ i,i<len→∃ y:α,W.cells? 0 (a.add (i*A2.sz α)) (A2.sz α)=some (A2.enc y)∧Good y (D i):=fun i hi=>by
  obtain ⟨cs',h1,h2⟩:=hx i sW;obtain ⟨y,rfl,hg⟩:=dec _ _ _ h2;rw [hsz] at h1;exact ⟨y,h1,hg⟩
 obtain ⟨Y,hY⟩:=Deep.choose_lt hel;have hlen:((List.range len).map Y).length=len:=uE;have hget:∀ i,i<len→((List.range len).map Y)[i]?.getD default=Y i:=fun i hi=>by simp [hi]
 refine ⟨some a,cap,(List.range len).map Y,by rw [hlen],⟨tP _,?_⟩,by rw [hlen];exact hlc,.inr ⟨_,_,F9,by simp,fun i hi=>?_⟩⟩
 · rw [hlen];rcases gK len with h00 | hpos
   · exact .inl h00
   refine .inr ⟨a.block,a.off,?_,?_⟩
   · have h1:=(World.cells?_some (hY 0 hpos).1).2.2 0 h0;rw [sB] at h1;have h2:∃ v,(A2.enc (Y 0))[0]?=some v:=⟨_,aA (by rw [A2.len];exact h0)⟩
     obtain ⟨v,hv⟩:=h2;rw [hv] at h1;have h3:=Sy h1;cases a;simp only [Addr.add] at h3;simp_all
   refine Vq (fun i hi j hj=>?_) h0;rw [hlen] at hi;rw [hget i hi];have h1:=(World.cells?_some (hY i hi).1).2.2 j hj;have h2:∃ v,(A2.enc (Y i))[j]?=some v:=⟨_,aA (by rw [A2.len];exact hj)⟩
   obtain ⟨v,hv⟩:=h2;rw [hv] at h1 ⊢;rw [Deep.add_add] at h1;have h3:=Sy h1;rw [MG h3 (.inr trivial)] at h1;exact h1
 rw [hlen] at hi;rw [hget i hi];exact ⟨D i,by simp [hi],(hY i hi).2⟩
end
end Go.Sl
namespace Go.Proofs.YtkdelpdbjfpgmaaGreatDoor
open Go Go.Sl Go.ChangeShapes Go.WideShapes Go.RowKit Go.Joins
abbrev WG : List (String × DataW Unit) := [("math/bits.deBruijn32tab", Rows.laid_math_bits_deBruijn32tab), ("math/bits.deBruijn64tab", Rows.laid_math_bits_deBruijn64tab)]
def MI:List Int:=[0,1,56,2,57,49,28,3,61,58,42,50,38,29,17,4,62,47,59,36,45,43,51,22,53,39,33,30,24,18,12,5,63,55,48,27,60,41,37,16,46,35,44,21,52,32,23,11,54,26,40,15,34,20,31,10,25,14,19,9,13,8,7,6]
theorem ft:Tryz.prog.underlying 4=some .bool:=sZ
theorem SR:laidOutB Tryz.prog=true:=sZ
theorem own:ownKnob Tryz.prog.godebug=none:=sZ
theorem ae : Tryz.prog.globalNamed "math/bits.deBruijn64tab" = some 1 := by kernel_rfl
theorem MJ:(Tryz.prog.globals[1]?).map (·.type)=some 296:=sZ
theorem XM:Tryz.prog.underlying 296=some (.array 64 5):=sZ
theorem fu:Tryz.prog.underlying 5=some (.int .u8):=sZ
theorem MK:Tryz.prog.cellsOf 296=64:=sZ
theorem XN:Tryz.prog.cellsOf 5=1:=sZ
theorem af {W : World} (h : laidMetH Tryz.prog WG W) : Lib.TabIs Tryz.prog W "math/bits.deBruijn64tab" .u8 MI := by
 have h1 := h.filter (fun x => x.1 == "math/bits.deBruijn64tab");have e : WG.filter (fun x => x.1 == "math/bits.deBruijn64tab") = [("math/bits.deBruijn64tab", Rows.laid_math_bits_deBruijn64tab)] := by kernel_rfl
 rw [e] at h1;exact Lib.tabIs_of_head (rest:=[]) ae MJ XM fu XN MK h1
theorem XO {W:World} (h:laidMetH Tryz.prog WG W):TabOk (Gp W):=fun k v hv=>by
 have hk:k<MI.length:=by
  have:=(bI.1 hv).1;simpa [EX,MI] using this
 have h1:=(af h).cell ae k hk;have h2:=Pa h1;rw [h2];have e:EX=MI.map fun n=>.int .u8 n:=rfl;rw [e,bK,aA hk] at hv;rw [←hv,List.getD_eq_getElem?_getD,aA hk];rfl
def ML (cs:Array Value):Obj→Obj
 | .cells _ t frozen=>.cells cs t frozen
 | o=>o
def Ky (os:Os):World:=
 { World.holding Tryz.prog os ⟨#[],#[],[]⟩ with heap:=((World.holding Tryz.prog os ⟨#[],#[],[]⟩).heap.modify 0 (ML #[.int .u8 0,.int .u8 1,.int .u8 28,.int .u8 2,.int .u8 29,.int .u8 14,.int .u8 24,.int .u8 3,.int .u8 30,.int .u8 22,.int .u8 20,.int .u8 15,.int .u8 25,.int .u8 17,.int .u8 4,.int .u8 8,.int .u8 31,.int .u8 27,.int .u8 13,.int .u8 23,.int .u8 21,.int .u8 19,.int .u8 16,.int .u8 7,.int .u8 26,.int .u8 12,.int .u8 18,.int .u8 6,.int .u8 11,.int .u8 5,.int .u8 10,.int .u8 9])).modify 1 (ML EX.toArray) }
end Go.Proofs.YtkdelpdbjfpgmaaGreatDoor
namespace Go.Sl
open Go
def A7 (l:List A5):Prop:=∀ d∈l,0≤d.v∧d.v<4294967296
def tA:List A5→Int
 | []=>0
 | d :: l=>d.v+4294967296*tA l
def pb (n:Nat):Int:=((4294967296 ^ n:Nat):Int)
theorem No:pb 0=1:=rfl
theorem yB (n:Nat):pb (n+1)=4294967296*pb n:=by unfold pb;rw [sD,Nat.mul_comm,kC];rfl
theorem yS (n:Nat):0<pb n:=by unfold pb;exact Int.ofNat_lt.2 (pM tG)
theorem CZ (m n:Nat):pb (m+n)=pb m*pb n:=by unfold pb;rw [oH,kC]
theorem Sz {m n:Nat} (h:m≤n):pb m≤pb n:=by unfold pb;exact Int.ofNat_le.2 (iR tG h)
theorem uO:tA []=0:=rfl
theorem vJ (d:A5) (l:List A5):tA (d :: l)=d.v+4294967296*tA l:=rfl
theorem A7.nil:A7 []:=fun d h=>by simp at h
theorem A7.tail {d:A5} {l:List A5} (h:A7 (d :: l)):A7 l:=fun x hx=>h x (bA _ hx)
theorem A7.head {d:A5} {l:List A5} (h:A7 (d :: l)):0≤d.v∧d.v<4294967296:=h d bF
theorem A7.append {l m:List A5} (h:A7 l) (h':A7 m):A7 (l++m):=fun x hx=>by
 rcases gW.1 hx with h1 | h1
 · exact h x h1
 exact h' x h1
theorem A7.one {d:Int} (h:0≤d∧d<4294967296):A7 [⟨d⟩]:=fun x hx=>by
 have:x=⟨d⟩:=by simpa using hx
 subst this;exact h
theorem A7.take {l:List A5} (h:A7 l) (n:Nat):A7 (l.take n):=fun x hx=>h x (rG hx)
theorem A7.at {l:List A5} (h:A7 l) {m:Int} (hm:0≤m∧m<l.length):0≤(l[m.toNat]?.getD default).v∧(l[m.toNat]?.getD default).v<4294967296:=by
 have hl:m.toNat<l.length:=sW;rw [aA hl];exact h _ (bZ hl)
theorem uK:∀ {l:List A5},A7 l→0≤tA l
 | [],_=>jA 0
 | d :: l,h=>by
   have h1:=uK h.tail;have h2:=h.head;rw [vJ];omega
theorem wS:∀ {l:List A5},A7 l→tA l<pb l.length
 | [],_=>tG
 | d :: l,h=>by
   have h1:=wS h.tail;have h2:=h.head;rw [vJ,aY,yB];omega
theorem vG:∀ (l m:List A5),tA (l++m)=tA l+pb l.length*tA m
 | [],m=>by rw [gA,uO,cH,No];omega
 | d :: l,m=>by
   rw [List.cons_append,vJ,vJ,vG l m,aY,yB,cZ,←cO];omega
theorem El (d:A5):tA [d]=d.v:=by rw [vJ,uO];omega
theorem IE (l:List A5) (d:A5):tA (l++[d])=tA l+pb l.length*d.v:=by rw [vG,El]
theorem Em {l:List A5} {k:Nat} (h:k<l.length):tA (l.take (k+1))=tA (l.take k)+pb k*(l[((k:Nat):Int).toNat]?.getD default).v:=by
 rw [cG,aF,aA h];simp only [Option.toList_some,eH];rw [IE,bH,cY (sE h)]
theorem Bf (n:Nat):tA (List.replicate n ⟨0⟩)=0:=by
 induction n with
 | zero=>rfl
 | succ n ih=>rw [oR,vJ,ih];rfl
theorem DA (n:Nat):A7 (List.replicate n ⟨0⟩):=fun x hx=>by
 have:=jF hx;subst this;exact ⟨by decide,by decide⟩
abbrev nY:=@DA
theorem IF {l:List A5} {n:Nat} (h:∀ j,n≤j→j<l.length→(l[j]?.getD default).v=0):tA (l.take n)=tA l:=by
 rcases aK n l.length with hn | hn
 · have e:l=l.take n++l.drop n:=(fU n l).symm;have hz:∀ (m:List A5),(∀ j,j<m.length→(m[j]?.getD default).v=0)→tA m=0:=by
    intro m;induction m with
    | nil=>intro _;rfl
    | cons d m ih =>
      intro h0;have h1:=h0 0 uE;simp only [List.getElem?_cons_zero,eH] at h1;rw [vJ,h1,ih fun j hj=>by have:=h0 (j+1) (by simpa using hj);simpa using this];rfl
   have h2:tA (l.drop n)=0:=hz _ fun j hj=>by
    rw [jC];exact h (n+j) sW (by rw [gP] at hj;omega)
   have h3:tA l=tA (l.take n++l.drop n):=by rw [fU]
   rw [h3,vG,h2];omega
 rw [uJ hn]
theorem Np {l:List A5} (hd:A7 l) (ht:E9 l) (h0:l≠[]):pb (l.length - 1)≤tA l:=by
 have hl:0<l.length:=List.length_pos_iff.2 h0;have h1:(l[l.length - 1]?.getD default).v≠0:=by
  rcases ht with h | h
  · exact absurd h h0
  exact h
 have h2:=Em (l:=l) (k:=l.length - 1) sW;rw [Nat.sub_add_cancel hl,uJ (aI _),aF] at h2;have h3:=uK (hd.take (l.length - 1));have h4:(1:Int)≤(l[l.length - 1]?.getD default).v:=by
  have:=hd.at (m:=((l.length - 1:Nat):Int)) sW;rw [aF] at this;omega
 have h5:=bU h4 (dX (yS (l.length - 1)));omega
theorem Yq {l:List A5} (hd:A7 l) (ht:E9 l) {m:Nat} (h:tA l<pb m):l.length≤m:=by
 by_cases h0:l=[]
 · subst h0;exact aN _
 have h1:=Np hd ht h0;rcases aK m l.length with h2 | h2
 · have h3:=Sz (show m≤l.length - 1 by omega);omega
 exact h2
theorem Pb {l:List A5} (hd:A7 l) (ht:E9 l) (h0:l≠[]):0<tA l:=pD (yS _) (Np hd ht h0)
theorem zT {l m:List A5} (hl:A7 l) (hm:A7 m) (tm:E9 m) (h:l.length<m.length):tA l<tA m:=by
 have h1:=wS hl;have h2:=Np hm tm (fun e=>by rw [e] at h;simp at h);have h3:=Sz (show l.length≤m.length - 1 by omega);omega
structure E0 (neg:Bool) (l:List A5) (z:Int):Prop where
 digs:A7 l
 top:E9 l
 sign:l=[]→neg=false
 val:z=if neg=true then -tA l else tA l
theorem E0.abs {neg:Bool} {l:List A5} {z:Int} (h:E0 neg l z):tA l=z.natAbs:=by
 have h1:=uK h.digs;have h2:=h.val;split at h2 <;> omega
theorem E0.neg_iff {neg:Bool} {l:List A5} {z:Int} (h:E0 neg l z):neg=decide (z<0):=by
 have h2:=h.val;by_cases h0:l=[]
 · have h3:=h.sign h0;subst h0;rw [h3] at h2 ⊢;rw [uO] at h2;have:¬z<0:=by simp at h2;omega
   simp [this]
 have h1:=Pb h.digs h.top h0;cases neg with
 | true =>
   rw [aE rfl] at h2;have:z<0:=sW;simp [this]
 | false =>
   rw [aD (by decide)] at h2;have:¬z<0:=sW;simp [this]
theorem E0.zero_iff {neg:Bool} {l:List A5} {z:Int} (h:E0 neg l z):l.length=0↔z=0:=by
 have h2:=h.val;constructor
 · intro h0;have h0:=dV h0;subst h0;rw [uO] at h2;split at h2 <;> omega
 intro hz;by_cases h0:l=[]
 · rw [h0];rfl
 have h1:=Pb h.digs h.top h0;split at h2 <;> omega
theorem E0.len {neg:Bool} {l:List A5} {z:Int} (h:E0 neg l z) {m:Nat} (hz:(z.natAbs:Int)<pb m):l.length≤m:=by
 refine Yq h.digs h.top ?_;rw [h.abs];exact hz
def C1 (G:A3) (x:IV) (z:Int):Prop:=∃ l:List A5,l.length=x.n∧x.n≤x.c∧Arr G x.a l∧E0 x.neg l z
theorem C1.up {G G':A3} {x:IV} {z:Int} (h:C1 G x z) (hl:G.le G'):C1 G' x z:=by
 obtain ⟨l,h1,h0,h2,h3⟩:=h;exact ⟨l,h1,h0,h2.up hl,h3⟩
theorem C1.zero (G:A3):C1 G ⟨false,none,0,0⟩ 0:=⟨[],F9,aI _,kG G,⟨A7.nil,E9.nil,fun _=>rfl,F9⟩⟩
theorem D5 (a b:Nat) (ha:a<18446744073709551616) (hb:b<18446744073709551616):bits .and .u64 (a:Int) (b:Int)=((a &&& b:Nat):Int):=by
 have hx:a &&& b<2 ^ 64:=Nat.and_lt_two_pow _ sW;have h1:(BitVec.ofInt 64 (a:Int)).toNat=a:=by
  rw [kF,lE];exact mP sW
 have h2:(BitVec.ofInt 64 (b:Int)).toNat=b:=by
  rw [kF,lE];exact mP sW
 show IntKind.u64.wrap ((BitVec.ofInt 64 (a:Int) &&& BitVec.ofInt 64 (b:Int)).toNat:Int)=_;rw [BitVec.toNat_and,h1,h2,nZ];omega
theorem D7 (a b:Nat) (ha:a<18446744073709551616) (hb:b<18446744073709551616):bits .or .u64 (a:Int) (b:Int)=((a ||| b:Nat):Int):=by
 have hx:a ||| b<2 ^ 64:=Nat.or_lt_two_pow sW sW
 have h1:(BitVec.ofInt 64 (a:Int)).toNat=a:=by
  rw [kF,lE];exact mP sW
 have h2:(BitVec.ofInt 64 (b:Int)).toNat=b:=by
  rw [kF,lE];exact mP sW
 show IntKind.u64.wrap ((BitVec.ofInt 64 (a:Int) ||| BitVec.ofInt 64 (b:Int)).toNat:Int)=_;rw [BitVec.toNat_or,h1,h2,nZ];omega
theorem Yr (x:Int) (h:0≤x∧x<18446744073709551616):bits .and .u64 x 1=x % 2:=by
 have h1:=D5 x.toNat 1 sW sW;rw [Nat.and_one_is_mod,cW h.1] at h1;have h2:((x.toNat % 2:Nat):Int)=x % 2:=sW;exact h1.trans h2
theorem Ys (x:Int) (h:0≤x∧x<18446744073709551616):bits .and .u64 x 4294967295=x % 4294967296:=by
 have h1:=D5 x.toNat 4294967295 sW sW;rw [show (4294967295:Nat)=2 ^ 32 - 1 by decide,sP,cW h.1] at h1;have h2:((x.toNat % 2 ^ 32:Nat):Int)=x % 4294967296:=sW;exact h1.trans h2
theorem DB (x y:Int) (hx:0≤x∧x<4294967296) (hy:0≤y∧y<4294967296):bits .or .u64 (x*4294967296) y=x*4294967296+y:=by
 have h1:=D7 (2 ^ 32*x.toNat) y.toNat sW sW;rw [←lV (b:=y.toNat) (i:=32) sW x.toNat] at h1;have e1:((2 ^ 32*x.toNat:Nat):Int)=x*4294967296:=sW;have e2:((2 ^ 32*x.toNat+y.toNat:Nat):Int)=x*4294967296+y:=sW;rw [e1,e2,cW hy.1] at h1;exact h1
theorem Yt (x y:Int) (hx:0≤x∧x<4294967296) (hy:0≤y∧y<4294967296):bits .or .u64 y (x*4294967296)=x*4294967296+y:=by
 have h1:=D7 y.toNat (2 ^ 32*x.toNat) sW sW;rw [Nat.or_comm,←lV (b:=y.toNat) (i:=32) sW x.toNat] at h1;have e1:((2 ^ 32*x.toNat:Nat):Int)=x*4294967296:=sW;have e2:((2 ^ 32*x.toNat+y.toNat:Nat):Int)=x*4294967296+y:=sW;rw [e1,e2,cW hy.1] at h1;exact h1
theorem Mp (x y:Int) (s:Nat) (hx:0≤x∧x<((2 ^ s:Nat):Int)) (hy:0≤y∧y<4294967296) (hs:s≤32) (hm:y % ((2 ^ s:Nat):Int)=0):bits .or .u32 x y=x+y:=by
 have hp:2 ^ s≤2 ^ 32:=iR tG hs;have h1:=Nf x.toNat y.toNat sW sW;have hm':y.toNat % 2 ^ s=0:=by
  have h2:((y.toNat % 2 ^ s:Nat):Int)=0:=by rw [Int.natCast_emod,cW hy.1];exact hm
  exact Int.ofNat_eq_zero.1 h2
 have h3:=oL y.toNat (2 ^ s);rw [hm',iH] at h3;have h4:=lV (b:=x.toNat) (i:=s) sW (y.toNat / 2 ^ s);rw [h3] at h4;rw [Nat.or_comm,←h4,cW hx.1,cW hy.1] at h1;rw [h1];omega
section
variable {P:Program} {e:A9} {H:Hp} {G:A3} {ty:TypeId} {t t':TypeId} {x y:Operand} {m n:Int} {k:IntKind}
theorem MM (hx:e.ev x=some (.int .u64 m)) (hy:e.ev y=some (.int k 32)) (h0:0≤m):Qy P (.binOp .shr t x y t') ty e H G (.int .u64 (m / 4294967296)):=by
 have h:=nW (P:=P) (H:=H) (G:=G) (ty:=ty) (t:=t) (t':=t') hx hy tG;have e1:m.fdiv (2 ^ (Min.min (32:Int).toNat IntKind.u64.bits))=m / 4294967296:=by
  rw [show Min.min (32:Int).toNat IntKind.u64.bits=32 by decide];exact pE _ tG
 rw [e1] at h;exact h
abbrev gO:=@MM
theorem MN (hx:e.ev x=some (.int .u64 m)) (hy:e.ev y=some (.int k 32)) (h0:0≤m∧m<4294967296):Qy P (.binOp .shl t x y t') ty e H G (.int .u64 (m*4294967296)):=by
 have h:=Qy.shl (P:=P) (H:=H) (G:=G) (ty:=ty) (t:=t) (t':=t') hx hy tG;have e1:IntKind.u64.wrap (m*2 ^ (Min.min (32:Int).toNat IntKind.u64.bits))=m*4294967296:=by
  rw [show Min.min (32:Int).toNat IntKind.u64.bits=32 by decide];exact kR _ sW
 rw [e1] at h;exact h
abbrev sA:=@MN
theorem DC {s:TypeId} (hs:(P.underlying s).isSome=true) (ht:P.underlying t=some (.int .u32)) (hx:e.ev x=some (.int .u64 m)):Qy P (.convert s t x) ty e H G (.int .u32 (m % 4294967296)):=by
 have h:=cR (P:=P) (H:=H) (G:=G) (ty:=ty) hs ht hx;rw [IntKind.wrap_u32] at h;exact h
abbrev iV:=@DC
theorem SS (hx:e.ev x=some (.int .u64 m)) (hy:e.ev y=some (.int .u64 1)) (h0:0≤m∧m<18446744073709551616):Qy P (.binOp .and t x y t') ty e H G (.int .u64 (m % 2)):=by
 have h:=lS (P:=P) (H:=H) (G:=G) (ty:=ty) (t:=t) (t':=t') hx hy;rw [Yr m h0] at h;exact h
abbrev oW:=@SS
theorem IG (hx:e.ev x=some (.int .u64 m)) (hy:e.ev y=some (.int .u64 4294967295)) (h0:0≤m∧m<18446744073709551616):Qy P (.binOp .and t x y t') ty e H G (.int .u64 (m % 4294967296)):=by
 have h:=lS (P:=P) (H:=H) (G:=G) (ty:=ty) (t:=t) (t':=t') hx hy;rw [Ys m h0] at h;exact h
abbrev qB:=@IG
theorem Iu (hx:e.ev x=some (.int .u64 (m*4294967296))) (hy:e.ev y=some (.int .u64 n)) (h0:0≤m∧m<4294967296) (h1:0≤n∧n<4294967296):Qy P (.binOp .or t x y t') ty e H G (.int .u64 (m*4294967296+n)):=by
 have h:=sO (P:=P) (H:=H) (G:=G) (ty:=ty) (t:=t) (t':=t') hx hy;rw [DB m n h0 h1] at h;exact h
theorem IH (hx:e.ev x=some (.int .u64 n)) (hy:e.ev y=some (.int .u64 (m*4294967296))) (h0:0≤m∧m<4294967296) (h1:0≤n∧n<4294967296):Qy P (.binOp .or t x y t') ty e H G (.int .u64 (m*4294967296+n)):=by
 have h:=sO (P:=P) (H:=H) (G:=G) (ty:=ty) (t:=t) (t':=t') hx hy;rw [Yt m n h0 h1] at h;exact h
theorem SU {s:Nat} (hx:e.ev x=some (.int .u64 m)) (hy:e.ev y=some (.int k (s:Int))) (h0:0≤m∧m<4294967296) (hs:s≤32):Qy P (.binOp .shl t x y t') ty e H G (.int .u64 (m*((2 ^ s:Nat):Int))):=by
 have h:=Qy.shl (P:=P) (H:=H) (G:=G) (ty:=ty) (t:=t) (t':=t') hx hy sW;have e1:IntKind.u64.wrap (m*2 ^ (Min.min (s:Int).toNat IntKind.u64.bits))=m*((2 ^ s:Nat):Int):=by
  rw [aF,cY (bO hs tG)];have e2:(2:Int) ^ s=((2 ^ s:Nat):Int):=by rw [Int.natCast_pow];rfl
  rw [e2];have hp:(1:Int)≤((2 ^ s:Nat):Int)∧((2 ^ s:Nat):Int)≤4294967296:=by
   have h1:0<2 ^ s:=pM tG;have h2:2 ^ s≤2 ^ 32:=iR tG hs;omega
  have h3:=bU hp.2 h0.1;have h4:=kS h0.1 (show (0:Int)≤((2 ^ s:Nat):Int) by omega);exact kR _ sW
 rw [e1] at h;exact h
theorem EY {s:Nat} (hx:e.ev x=some (.int .u64 m)) (hy:e.ev y=some (.int k (s:Int))) (h0:0≤m) (hs:s≤32):Qy P (.binOp .shr t x y t') ty e H G (.int .u64 (m / ((2 ^ s:Nat):Int))):=by
 have h:=nW (P:=P) (H:=H) (G:=G) (ty:=ty) (t:=t) (t':=t') hx hy sW;have e1:m.fdiv (2 ^ (Min.min (s:Int).toNat IntKind.u64.bits))=m / ((2 ^ s:Nat):Int):=by
  rw [aF,cY (bO hs tG)];have e2:(2:Int) ^ s=((2 ^ s:Nat):Int):=by rw [Int.natCast_pow];rfl
  rw [e2];exact pE _ (rW _)
 rw [e1] at h;exact h
end
theorem Vr (P s:Int):P*(s % 4294967296)+4294967296*P*(s / 4294967296)=P*s:=by
 have h:=jX s 4294967296;have e:4294967296*P*(s / 4294967296)=P*(4294967296*(s / 4294967296)):=by rw [cJ 4294967296 P,cO]
 rw [e,←cZ,h]
def lg (l:List A5) (i:Nat):Int:=(l[((i:Nat):Int).toNat]?.getD default).v
theorem By {l:List A5} (h:A7 l) {i:Nat} (hi:i<l.length):0≤lg l i∧lg l i<4294967296:=h.at sW
theorem En {l:List A5} {i:Nat} (hi:l.length≤i):lg l i=0:=by
 unfold lg;rw [aF,cA hi];rfl
theorem wA {l:List A5} (h:A7 l) (i:Nat):0≤lg l i∧lg l i<4294967296:=by
 rcases aK i l.length with h1 | h1
 · exact By h h1
 rw [En h1];decide
theorem Hg {l:List A5} {i:Nat} (h:i<l.length) (d:Int):lg (l.set i ⟨d⟩) i=d:=by
 unfold lg;rw [aF,aA (by rw [aG];exact h),List.getElem_set_self];rfl
theorem zG {l:List A5} {i j:Nat} (h:i≠j) (d:A5):lg (l.set i d) j=lg l j:=by
 unfold lg;rw [aF,List.getElem?_set_ne h]
theorem uQ (l:List A5) (i:Nat):tA (l.take (i+1))=tA (l.take i)+pb i*lg l i:=by
 rcases aK i l.length with h | h
 · exact Em h
 rw [uJ h,uJ sW,En h,bR,fN]
theorem xE {l:List A5} {i:Nat} (h:i<l.length):tA (l.drop i)=lg l i+4294967296*tA (l.drop (i+1)):=by
 rw [dQ h,vJ];unfold lg;rw [aF,aA h];rfl
theorem Bg (l:List A5) {m:Nat} (h:m≤l.length):tA l=tA (l.take m)+pb m*tA (l.drop m):=by
 have h1:tA l=tA (l.take m++l.drop m):=by rw [fU]
 rw [h1,vG,bH,cY h]
theorem Cr:∀ (l:List A5) (k:Nat) (d:A5),k<l.length→tA (l.set k d)=tA l+pb k*(d.v - lg l k)
 | [],k,d,h=>by simp at h
 | x :: l,0,d,_=>by
   rw [List.set_cons_zero,vJ,vJ,No];show _=_+1*(d.v - x.v);omega
 | x :: l,k+1,d,h=>by
   have ih:=Cr l k d (by simpa using h);have e:lg (x :: l) (k+1)=lg l k:=by unfold lg;rw [aF,aF,iT]
   rw [List.set_cons_succ,vJ,vJ,ih,yB,e,cZ,←cO];omega
theorem uM {l:List A5} (h:A7 l) (k:Nat) {s:Int} (hs:0≤s∧s<4294967296):A7 (l.set k ⟨s⟩):=fun d hd=>by
 rcases fI hd with h1 | h1
 · exact h d h1
 subst h1;exact hs
theorem Gr (s:Int):0≤s % 4294967296∧s % 4294967296<4294967296:=⟨lI _ tG,gL _ tG⟩
def E8 (l:List A5) (n:Nat):Prop:=n≤l.length∧(∀ j,n≤j→j<l.length→(l[j]?.getD default).v=0)∧(n=0∨(l[n - 1]?.getD default).v≠0)
theorem E8.val {l:List A5} {n:Nat} (h:E8 l n):tA (l.take n)=tA l:=IF h.2.1
theorem E8.top {l:List A5} {n:Nat} (h:E8 l n):E9 (l.take n):=by
 obtain ⟨h1,h2,h3⟩:=h;rcases h3 with h3 | h3
 · subst h3;exact .inl F9
 by_cases h0:n=0
 · subst h0;exact .inl F9
 refine .inr ?_;rw [bH,cY h1,nB,aE (by omega)];exact h3
theorem Iv {α:Type} [A2 α] {G:A3} {a:Option Addr} {c sz:Nat} {l:List α} (h:Arr G a l) (n:Nat):Arr G (C6 a c 0 sz) (l.take n):=by
 refine ⟨tP _,?_⟩;rcases h.2 with h0 | ⟨b,o,rfl,hr⟩
 · left;rw [bH];omega
 refine .inr ⟨b,o,?_,fun i v hi=>hr i v ?_⟩
 · unfold C6;split
   · rfl
   simp [Addr.add]
 have e:tV l=tV (l.take n)++tV (l.drop n):=by rw [←wM,fU]
 rw [e,bJ (bI.1 hi).1];exact hi
theorem Iw {la lb r:List A5} {i:Nat} {cy s:Int} (hi:i<r.length) (hv:tA (la.take i)+tA (lb.take i)=tA (r.take i)+pb i*cy) (hs:s=cy+lg la i+lg lb i) :
 tA (la.take (i+1))+tA (lb.take (i+1))=tA ((r.set i ⟨s % 4294967296⟩).take (i+1))+pb (i+1)*(s / 4294967296):=by
 rw [uQ,uQ,uQ (r.set i _),Hg hi,mV (aI i),yB];have h:=Vr (pb i) s;rw [hs,cZ,cZ,←hs] at h;omega
theorem Ix {la lb r:List A5} {i:Nat} {cy cy' s:Int} (hi:i<r.length) (hv:tA (la.take i) - tA (lb.take i)=tA (r.take i) - pb i*cy) (hs:s=lg la i - lg lb i - cy+4294967296*cy') :
 tA (la.take (i+1)) - tA (lb.take (i+1))=tA ((r.set i ⟨s⟩).take (i+1)) - pb (i+1)*cy':=by
 rw [uQ,uQ,uQ (r.set i _),Hg hi,mV (aI i),yB];have h:pb i*s=pb i*lg la i - pb i*lg lb i - pb i*cy+4294967296*pb i*cy':=by
  rw [hs,cZ,kV,kV,←cO,cJ (pb i) 4294967296]
 omega
theorem SW {la lb r:List A5} {n:Nat} {cy:Int} (hn:n=la.length) (hb:lb.length≤la.length) (hle:tA lb≤tA la) (hri:r.length=n) (hd:A7 r) (hc:0≤cy∧cy≤1) (hv:tA (la.take n) - tA (lb.take n)=tA (r.take n) - pb n*cy):tA r=tA la - tA lb:=by
 rw [uJ sW,uJ sW,uJ sW] at hv;have h:=wS hd;rw [hri] at h;have hcy:cy=0:=by
  rcases (show cy=0∨cy=1 by omega) with h1 | h1
  · exact h1
  rw [h1,gZ] at hv;omega
 rw [hcy,bR] at hv;omega
theorem II {r lb:List A5} {i j:Nat} {c s x A:Int} (hk:i+j<r.length) (hv:tA r+pb (i+j)*c=A+pb i*(x*tA (lb.take j))) (hs:s=c+(x*lg lb j+lg r (i+j))) :
 tA (r.set (i+j) ⟨s % 4294967296⟩)+pb (i+(j+1))*(s / 4294967296)=A+pb i*(x*tA (lb.take (j+1))):=by
 rw [Cr r (i+j) ⟨s % 4294967296⟩ hk,uQ,←pT,yB];have h1:=Vr (pb (i+j)) s;have h2:pb (i+j)*s=pb (i+j)*c+(pb (i+j)*(x*lg lb j)+pb (i+j)*lg r (i+j)):=by rw [hs,cZ,cZ]
 have h3:pb i*(x*(tA (lb.take j)+pb j*lg lb j))=pb i*(x*tA (lb.take j))+pb (i+j)*(x*lg lb j):=by
  rw [cZ,cZ,CZ];congr 1;rw [cO,←cO x,cJ x (pb j),cO]
 have h4:pb (i+j)*(s % 4294967296 - lg r (i+j))=pb (i+j)*(s % 4294967296) - pb (i+j)*lg r (i+j):=kV _ _ _;show tA r+pb (i+j)*(s % 4294967296 - lg r (i+j))+4294967296*pb (i+j)*(s / 4294967296)=_;rw [h3,h4];omega
theorem MO {la lb r:List A5} {i:Nat} {c:Int} (hk:i+lb.length<r.length) (hz:lg r (i+lb.length)=0) (hv:tA r+pb (i+lb.length)*c=tA (la.take i)*tA lb+pb i*(lg la i*tA (lb.take lb.length))) :
 tA (r.set (i+lb.length) ⟨c⟩)=tA (la.take (i+1))*tA lb:=by
 rw [Cr r _ _ hk,hz,uJ (aI _)] at *;show tA r+pb (i+lb.length)*(c - 0)=_;rw [lB,hv,uQ,mH,cO]
theorem Df {x y:Int} (hx:0≤x∧x<4294967296) (hy:0≤y∧y<4294967296):0≤x*y∧x*y≤18446744065119617025:=by
 refine ⟨kS hx.1 hy.1,?_⟩;have h1:x*y≤4294967295*y:=iI sW hy.1;omega
theorem Yu {la q:List A5} {i:Nat} {r B:Int} (hi:i<la.length) (hq:i<q.length) (hv:tA (la.drop (i+1))=tA (q.drop (i+1))*B+r) :
 tA (la.drop i)=tA ((q.set i ⟨(r*4294967296+lg la i) / B⟩).drop i)*B+(r*4294967296+lg la i) % B:=by
 rw [xE hi,xE (l:=q.set i _) (by rw [aG];exact hq),Hg hq,List.drop_set_of_lt sW,hv];have h:=jX (r*4294967296+lg la i) B;rw [mH,cJ ((r*4294967296+lg la i) / B) B,cO 4294967296,cZ];omega
theorem IJ {r a B:Int} (hr:0≤r∧r<B) (ha:0≤a∧a<4294967296):0≤(r*4294967296+a) / B∧(r*4294967296+a) / B<4294967296:=by
 refine ⟨oN sW sW,nU sW ?_⟩;have h1:=iI (show r+1≤B by omega) (show (0:Int)≤4294967296 by decide);rw [cJ 4294967296 B];omega
theorem MP {lb:List A5} (h:lb.length=1):tA lb=lg lb 0:=by
 match lb,h with
 | [d],_=>rw [El];rfl
theorem MQ {x y:A5} (h:x.v=y.v):x=y:=by cases x;cases y;simp only at h;rw [h]
theorem Pc {la lb:List A5} {k:Nat} (hn:la.length=lb.length) (h:∀ j,k≤j→j<la.length→lg la j=lg lb j):la.drop k=lb.drop k:=by
 refine hS fun i=>?_;rw [jC,jC];rcases aK (k+i) la.length with h1 | h1
 · have h2:=h (k+i) sW h1;unfold lg at h2;rw [aF] at h2;rw [aA h1,aA sW] at h2 ⊢;exact congrArg some (MQ h2)
 rw [cA h1,cA sW]
theorem Yv {la lb:List A5} {k:Nat} (hn:la.length=lb.length) (hk:k<la.length) (da:A7 la) (db:A7 lb) (h:∀ j,k+1≤j→j<la.length→lg la j=lg lb j) (hlt:lg la k<lg lb k):tA la<tA lb:=by
 have e:=Pc hn h;have h1:=Bg la (show k+1≤la.length by omega);have h2:=Bg lb (show k+1≤lb.length by omega);rw [e] at h1;rw [uQ] at h1 h2;have h3:=wS (da.take k);rw [bH,cY sW] at h3;have h4:=uK (db.take k);have h5:=bU (show lg la k+1≤lg lb k by omega) (dX (yS k));rw [cZ,gZ] at h5;omega
theorem MR {p Ul U3 Vl V2 g:Int} (hp:0<p) (hUl:Ul<p) (hVl:0≤Vl) (hg:0≤g) (h:U3<g*V2):Ul+p*U3<g*(Vl+p*V2):=by
 have h1:=bU (show U3+1≤g*V2 by omega) (dX hp);have h2:=kS hg hVl;rw [cZ,gZ] at h1;rw [cZ,gH g p];omega
theorem SX {p Ul U3 Vl V2 g:Int} (hp:0<p) (hUl:0≤Ul) (hVl:0≤Vl∧Vl<p) (hg:0≤g∧g<4294967296) (hV2:4294967296≤V2) (h:g*V2≤U3):(g - 1)*(Vl+p*V2)≤Ul+p*U3:=by
 have h1:=bU h (dX hp);have h2:=bU (dX hVl.2) hg.1;have h3:=iI (dX hg.2) (dX hp);have h4:=bU hV2 (dX hp);rw [kU,dW,cZ,gH g p];rw [cJ p 4294967296] at h4;omega
theorem MS {g v1 v2 high rest u2:Int} (h:g*v1+rest=high):g*(v2+4294967296*v1) - (u2+4294967296*high)=g*v2 - (rest*4294967296+u2):=by
 rw [cZ,gH g 4294967296,←h];omega
theorem MT {g v1 high rest:Int} (h:g*v1+rest=high) (hr:4294967296≤rest) (hv:0<v1) (hh:high<v1*4294967296+4294967296):g<4294967296:=by
 rcases qO g 4294967296 with h1 | h1
 · exact h1
 have h2:=iI h1 (dX hv);omega
section
variable {u v:List A5} {m:Nat}
theorem SY (hu:u.length=m+3):tA u=tA (u.take m)+pb m*(lg u m+4294967296*(lg u (m+2)*4294967296+lg u (m+1))):=by
 have h0:=Bg u (show m≤u.length by omega);rw [xE (l:=u) (i:=m) sW,xE (l:=u) (i:=m+1) sW,xE (l:=u) (i:=m+1+1) sW,fD (show u.length≤m+1+1+1 by omega),uO] at h0;rw [h0];congr 2;show lg u m+4294967296*(lg u (m+1)+4294967296*(lg u (m+2)+4294967296*0))=_;omega
theorem MU (hv:v.length=m+2):tA v=tA (v.take m)+pb m*(lg v m+4294967296*lg v (m+1)):=by
 have h0:=Bg v (show m≤v.length by omega);rw [xE (l:=v) (i:=m) sW,xE (l:=v) (i:=m+1) sW,fD (show v.length≤m+1+1 by omega),uO] at h0;rw [h0];congr 2;omega
theorem yT {l:List A5} (d:A7 l) (h:m≤l.length):0≤tA (l.take m)∧tA (l.take m)<pb m:=by
 have h1:=wS (d.take m);rw [bH,cY h] at h1;exact ⟨uK (d.take m),h1⟩
variable (hu:u.length=m+3) (hv:v.length=m+2) (du:A7 u) (dv:A7 v)
include hu hv du dv
theorem MV {g rest high:Int} (hh:high=lg u (m+2)*4294967296+lg u (m+1)) (h1:0<lg v (m+1)) (hg:g=high / lg v (m+1)) (hr:rest=high % lg v (m+1)) :
 g*lg v (m+1)+rest=high∧0≤g∧0≤rest∧rest<lg v (m+1)∧tA u<(g+1)*tA v:=by
 have a1:=wA du (m+2);have a2:=wA du (m+1);have a3:=wA du m;have a4:=wA dv m;have hn:0≤high:=sW;have e1:=jX high (lg v (m+1));have e2:=gL high h1;have e3:=lI high (show lg v (m+1)≠0 by omega);have e4:=oN hn (dX h1);rw [←hg,←hr] at e1;rw [←hr] at e2 e3;rw [←hg] at e4;rw [cJ] at e1;refine ⟨by omega,e4,e3,e2,?_⟩;rw [SY hu,MU hv,←hh];refine MR (yS m) (yT du sW).2 (yT dv sW).1 sW ?_;have e5:(g+1)*lg v (m+1)=g*lg v (m+1)+lg v (m+1):=by rw [mH,dW]
 have e6:=kS (show 0≤g+1 by omega) a4.1;rw [cZ,gH (g+1) 4294967296,e5];omega
theorem XP {g rest high:Int} (hh:high=lg u (m+2)*4294967296+lg u (m+1)) (h:g*lg v (m+1)+rest=high) (hg:0≤g) (hc:rest*4294967296+lg u m<g*lg v m):tA u<g*tA v:=by
 have e:=MS (v2:=lg v m) (u2:=lg u m) h;rw [SY hu,MU hv,←hh];exact MR (yS m) (yT du sW).2 (yT dv sW).1 hg sW
theorem MW {g rest high:Int} (hh:high=lg u (m+2)*4294967296+lg u (m+1)) (h:g*lg v (m+1)+rest=high) (hg:0≤g∧g<4294967296) (h1:1≤lg v (m+1)) (hc:g*lg v m≤rest*4294967296+lg u m):(g - 1)*tA v≤tA u:=by
 have e:=MS (v2:=lg v m) (u2:=lg u m) h;have a4:=wA dv m;rw [SY hu,MU hv,←hh];exact SX (yS m) (yT du sW).1 (yT dv sW) hg sW sW
end
theorem As {u v w:List A5} {i:Nat} {t c c' b b' s:Int} (hi:i<w.length) (hv:tA (u.take i) - t*tA (v.take i)=tA (w.take i) - pb i*(b+c)) (hc:c'=c+lg v i*t)
 (hs:s=lg u i - c' % 4294967296 - b+4294967296*b') :
 tA (u.take (i+1)) - t*tA (v.take (i+1))=tA ((w.set i ⟨s⟩).take (i+1)) - pb (i+1)*(b'+c' / 4294967296):=by
 rw [uQ,uQ,uQ (w.set i _),Hg hi,mV (aI i),yB];have h1:=Vr (pb i) c';have h2:pb i*c'=pb i*c+t*(pb i*lg v i):=by rw [hc,cZ,cJ (lg v i) t,gH t]
 have h3:pb i*s=pb i*lg u i - pb i*(c' % 4294967296) - pb i*b+4294967296*pb i*b':=by
  rw [hs,cZ,kV,kV,←cO,cJ (pb i) 4294967296]
 rw [cZ] at hv;rw [cZ t,cZ (4294967296*pb i)];omega
theorem DD {c x t:Int} (hc:0≤c∧c<4294967296) (hx:0≤x∧x<4294967296) (ht:0≤t∧t<4294967296):0≤c+x*t∧c+x*t<18446744073709551616∧0≤(c+x*t) / 4294967296∧(c+x*t) / 4294967296<4294967296∧0≤x*t∧x*t≤18446744065119617025:=by
 have h:=Df hx ht;omega
theorem MX {u v w z:List A5} {n:Nat} {g c:Int} (hu:tA w=tA u - g*tA v+pb n) (hlow:(g - 1)*tA v≤tA u) (hup:tA u<g*tA v) (hw:w.length=n) (hz:z.length=n) (hvn:tA v<pb n) (hvl:v.length≤n) (dz:A7 z) (hc:0≤c∧c≤1)
 (hs:tA (w.take n)+tA (v.take n)=tA (z.take n)+pb n*c):tA z=tA u - (g - 1)*tA v:=by
 rw [uJ sW,uJ sW,uJ sW] at hs;have h1:=uK dz;have h2:=wS dz;rw [hz] at h2;have e:(g - 1)*tA v=g*tA v - tA v:=by rw [kU,dW]
 have hc1:c=1:=by
  rcases (show c=0∨c=1 by omega) with h | h
  · rw [h,bR] at hs;omega
  exact h
 rw [hc1,gZ] at hs;omega
theorem SZ (p w w' q:List A5) (h:w'.length=w.length):tA (p++(w'++q))=tA (p++(w++q))+pb p.length*(tA w' - tA w):=by
 rw [vG,vG,vG,vG,h,cZ,cZ,kV];omega
theorem MY {A V q g:Int} {R R':Int} {l:List A5} {k:Nat} (hk:k<l.length) (hz:lg l k=0) (hA:A=tA l*V+R) (hR:R'=R+pb k*(-(g*V))):A=tA (l.set k ⟨g⟩)*V+R':=by
 rw [Cr l k _ hk,hz,hA,hR,lB,mH,cO,iZ];show _=tA l*V+pb k*(g*V)+(R + -(pb k*(g*V)));omega
section
variable {P:Program} {ops:Array Oper} {rest:List Oper} {B:Bs} {e:A9} {D:List Deferred} {H:Hp} {G:A3} {K:Act→World→Prop}
 {ty:TypeId} {pos:String} {after:Array Edge} {d:Nat}
theorem TA {p w q:List A5} {m:Int} (hm:0≤m∧m<w.length):(p++(w++q))[((p.length:Int)+m).toNat]?.getD default=w[m.toNat]?.getD default:=by
 have h1:((p.length:Int)+m).toNat=p.length+m.toNat:=sW;rw [h1,cL sW,iS,bJ sW]
theorem TB {p w q:List A5} {m:Int} (hm:0≤m∧m<w.length) (z:A5):(p++(w++q)).set ((p.length:Int)+m).toNat z=p++(w.set m.toNat z++q):=by
 have h1:((p.length:Int)+m).toNat=p.length+m.toNat:=sW;rw [h1,qW _ _ sW,iS,List.set_append_left _ _ sW]
theorem EZ {k:Nat} {m:Int} (hm:0≤m):k+m.toNat*1=0+((k:Int)+m).toNat*A2.sz A5+0:=by
 show k+m.toNat*1=0+((k:Int)+m).toNat*1+0;omega
theorem MZ {T:TypeId} {x:Operand} {b:Nat} {E:TypeId} {p w q:List A5} {junk:List Value} {m:Int} (t:Nat) (h1:wR P T=true) (hx:e.ev x=some (.pointer (some ⟨b,p.length+m.toNat*1,none⟩)))
 (ht:H.get t=some (some b,Row E (p++(w++q)) junk)) (hm:0≤m∧m<w.length):Qy P (.load T x) ty e H G (.int .u32 (w[m.toNat]?.getD default).v):=by
 rw [EZ hm.1] at hx;refine oF (m:=(p.length:Int)+m) t 0 h1 hx ht ⟨by omega,by rw [aB,aB];omega⟩ F9 ?_;rw [TA hm];rfl
abbrev mE:=@MZ
theorem TC {T:TypeId} {x y:Operand} {b:Nat} {E:TypeId} {p w q:List A5} {junk:List Value} {m n:Int} (t:Nat) (hs:(P.info? T).map (·.size)=some 1)
 (hx:e.ev x=some (.pointer (some ⟨b,p.length+m.toNat*1,none⟩))) (hy:e.ev y=some (.int .u32 n)) (ht:H.get t=some (some b,Row E (p++(w++q)) junk)) (hm:0≤m∧m<w.length)
 (h:Wl P ops rest B ⟨e,D,(t,some b,Row E (p++(w.set m.toNat ⟨n⟩++q)) junk) :: H,G⟩ K):Wl P ops (⟨none,.store T x y,ty,pos,after,none⟩ :: rest) B ⟨e,D,H,G⟩ K:=by
 rw [EZ hm.1] at hx;refine ES (m:=(p.length:Int)+m) (z:=(⟨n⟩:A5)) t hs hx hy F9 ht ⟨by omega,by rw [aB,aB];omega⟩ ?_;rw [TB hm];exact h
abbrev qI:=@TC
theorem NA {T:TypeId} {x hi mx:Operand} {a:Option Addr} {n c E sz:Nat} {k k':IntKind} {m m':Int} (hT:tN P T E sz) (hx:e.ev x=some (.slice a n c)) (hh:e.ev hi=some (.int k m)) (hh':e.ev mx=some (.int k' m')) (h0:0≤m) (h1:m≤m') (h2:m'≤c) :
 Qy P (.slice T x none (some hi) (some mx)) ty e H G (.slice (C6 a m'.toNat 0 sz) m.toNat m'.toNat):=fun ac w _ _ _ _ hk=>by
 have hr:=run_sizeOf (P:=P) w hT.2;have hu:P.underlying T=some (.slice (P.elem T)):=by simp [Program.elem,hT.1]
 have he:P.elem T=E:=by simp [Program.elem,hT.1]
 have:=run_slice_hm (P:=P) (w:=w) T a n c hu k k' m m' h0 h1 h2;simp only [execOp,hk.eval hx,fZ,lG,hk.eval hh,hk.eval hh',dG,pJ (P:=P) (w:=w) T _ _ _ _ hu,this,he,hr,bM,dT,sliced,C6,nJ]
end
section
variable {P:Program} {ops:Array Oper} {rest:List Oper} {B:Bs} {e:A9} {D:List Deferred} {H:Hp} {G:A3} {K:Act→World→Prop}
 {ty:TypeId} {pos:String} {after:Array Edge} {d:Nat} {α:Type} [A2 α]
theorem Yw {w:World} (hw:B3 H G w) {T T2 E:Nat} (hT:tN P T E (A2.sz α)) {t b:Nat} {ad:Option Addr} {c c2:Nat} {xs ys:List α} {junk:List Value}
 (ht:H.get t=some (some b,Row E xs junk)) (hsrc:F6 H G ad ys) (hle:ys.length≤xs.length) :
 ∃ w',(Builtin.copy_ #[T,T2] ty #[.slice (some ⟨b,0,none⟩) xs.length c,.slice ad ys.length c2]).run P w=.ok (.int .i64 (ys.length:Int)) w'∧E2 (·=b) w w'∧w'.heap[b]?=some (Row E (ys++xs.drop ys.length) junk):=by
 have hb:=hw.own t b _ ht;have hmin:Nat.min ys.length xs.length=ys.length:=cY hle;cases hq:P.info? E with
 | none=>have:=hT.2;simp [hq] at this
 | some i =>
   have hi:i.size=A2.sz α:=by have:=hT.2;simpa [hq] using this
   rcases hsrc w hw with ⟨rfl,rfl⟩ | ⟨src,rfl,hsr⟩
   · refine ⟨w,?_,mX _ _,by simpa using hb⟩;have hm0:Nat.min (0:Nat) xs.length=0:=Nat.zero_min _;simp [Builtin.copy_,dE hT.1,Builtin.lenOf,Builtin.firstCells,sizeOf,typeInfo,hq,storeCells,hm0,goInt]
   have hl:=run_loadCells_list (P:=P) w src (tV ys) hsr;have hfy:(tV ys).length=ys.length*A2.sz α:=tP ys;have hfx:(tV xs).length=xs.length*A2.sz α:=tP xs;have hmul:=mF (A2.sz α) hle;have hfit:0+0+(tV ys).length≤((tV xs++junk).toArray).size:=by
    rw [pN,aB];omega
   have hst:=run_storeCells_at P b 0 E (tV ys) 0 (tV xs++junk).toArray w hb hfit (fun v hv=>eN.1 (Yg ys) v hv);refine ⟨_,?_,Ba w b (((tV xs++junk).toArray.toList.take (0+0)++tV ys++(tV xs++junk).toArray.toList.drop (0+0+(tV ys).length)).toArray),?_⟩
   · rw [hfy] at hl;simp [Builtin.copy_,dE hT.1,Builtin.lenOf,Builtin.firstCells,sizeOf,typeInfo,hq,hi,hmin,hl,hst,goInt]
   rw [rA w b _ _ E _ hb];have hsplit:tV xs=tV (xs.take ys.length)++tV (xs.drop ys.length):=by rw [←wM,fU]
   have htl:(tV (xs.take ys.length)).length=(tV ys).length:=by rw [tP,tP,bH,cY hle]
   unfold Row;rw [wM];simp only [iH,cS,bQ,gA];rw [hsplit,aR,←htl,List.drop_left,aR]
theorem Pd {x y:Operand} {T T2 E b:Nat} {ad:Option Addr} {c c2:Nat} {xs ys:List α} {junk:List Value} (t:Nat) (hn:Nat.ble (d+1) B.n=true) (hT:tN P T E (A2.sz α))
 (hx:e.ev x=some (.slice (some ⟨b,0,none⟩) xs.length c)) (hy:e.ev y=some (.slice ad ys.length c2)) (ht:H.get t=some (some b,Row E xs junk)) (hsrc:F6 H G ad ys) (hle:ys.length≤xs.length)
 (h:Wl P ops rest B ⟨(d,.int .i64 (ys.length:Int)) :: e,D,(t,some b,Row E (ys++xs.drop ys.length) junk) :: H,G⟩ K) :
 Wl P ops (⟨some d,.call { callee:=.builtin .copy,args:=#[x,y],argTypes:=#[T,T2] },ty,pos,after,none⟩ :: rest) B ⟨e,D,H,G⟩ K:=by
 refine nV (v:=.int .i64 (ys.length:Int)) (x:=.value (.int .i64 (ys.length:Int))) ht (.inr ⟨F9,d,F9,hn⟩) (fun a w hh=>?_) h;obtain ⟨w',hrun,hu,hb⟩:=Yw (c:=c) (c2:=c2) (T2:=T2) (ty:=ty) hh.mem hT ht hsrc hle;refine ⟨w',?_,hu,hb⟩;simp only [execOp,resolve,invoke,builtin,dG,dT,bM,sS,jE,mQ,hh.eval hx,hh.eval hy,hrun]
end
theorem NB {P:Program} {e:A9} {H:Hp} {G:A3} {ty t t':TypeId} {x y:Operand} {m n:Int} (hx:e.ev x=some (.int .u64 m)) (hy:e.ev y=some (.int .u64 n)) (h0:m<n∧0≤m∧n≤18446744073709551615):Qy P (.binOp .sub t x y t') ty e H G (.int .u64 (m - n+18446744073709551616)):=by
 have h:=Io (P:=P) (H:=H) (G:=G) (ty:=ty) (t:=t) (t':=t') hx hy;have e1:IntKind.u64.wrap (m - n)=m - n+18446744073709551616:=by rw [nZ];omega
 rw [e1] at h;exact h
abbrev rC:=@NB
theorem Pe {P:Program} {f:FuncId} {args:List Value} {G:A3} {u:Value} (h:∀ w,Calls P f args.toArray w fun e w'=>e=.returned u∧w'=w):Does P f args G [] (fun v G' Ho=>v=u∧G'=G∧Ho=[]):=
 fun w hw=>(h w).mono fun e w' he=>by
  obtain ⟨rfl,rfl⟩:=he;exact ⟨u,G,[],F9,hw,bN G,mX _ _,fun b h1 h2=>absurd h2 h1,fun t b o ht=>by simp [Hp.get] at ht,F9,F9,F9⟩
end Go.Sl
namespace Go.Proofs.YtkdelpdbjfpgmaaGreatDoor
open Go Go.Sl
def uY (x y:Int):Int:=if x<y then -1 else if y<x then 1 else 0
theorem Iy {x y:Int} (h:x<y):uY x y=-1:=aE h
theorem Nq {x y:Int} (h:y<x):uY x y=1:=by unfold uY;rw [aD (by omega),aE h]
theorem Vs {x y:Int} (h:x=y):uY x y=0:=by unfold uY;rw [aD (by omega),aD (by omega)]
theorem Pf {x y u v:Int} (h1:x<y↔u<v) (h2:y<x↔v<u):uY x y=uY u v:=by unfold uY;simp only [h1,h2]
theorem xF {l m:List A5} (he:m=l.take m.length) (ht:E8 l m.length):tA m=tA l:=by rw [he];exact ht.val
theorem Eo {l m:List A5} (he:m=l.take m.length) (ht:E8 l m.length):E9 m:=by rw [he];exact ht.top
theorem xB {l m:List A5} (he:m=l.take m.length) (hd:A7 l):A7 m:=by rw [he];exact hd.take _
section
attribute [local irreducible] tA pb uY
theorem Nh (G:A3) (a:Option Addr) (c:Nat) (l:List A5) (hl:Arr G a l) (hb:l.length≤1099511627776) (hc:l.length≤c) :
 Does Tryz.prog 181 [.slice a l.length c] G [] (fun v G' Ho=>∃ (b:Option Addr) (m:List A5),v=.slice b m.length m.length∧Arr G b m∧m=l.take m.length∧E8 l m.length∧m.length≤l.length∧G'=G∧Ho=[]):=by
 refine D0 Tryz.func181 Tryz.ntmps181 fun w=>?_;refine bL 14 [] ?_;refine iA (ι:=Nat) (fun n=>([(3,.int .i64 (n:Int)),(2,.slice none 0 0),(0,.slice a (List.length l) c)],[])) (fun n=>n≤l.length∧(∀ j,n≤j→j<l.length→(l[j]?.getD default).v=0)) (fun n=>n) (l.length) (⟨aI _,fun j h1 h2=>absurd h2 sW⟩) fun n=>fun hk=>?_;obtain ⟨hn,hz⟩:=hk;have done:(n=0∨(l[n - 1]?.getD default).v≠0)→∃ (b:Option Addr) (m:List A5),Value.slice (C6 a n 0 1) n n=.slice b m.length m.length∧Arr G b m∧m=l.take m.length∧E8 l m.length∧m.length≤l.length∧G=G∧([]:Hp)=[]:=fun ht=>by
  have e:(l.take n).length=n:=by rw [bH,cY hn]
  refine ⟨C6 a n 0 1,l.take n,by rw [e],Iv hl n,by rw [e],?_,by rw [e];exact hn,F9,F9⟩;rw [e];exact ⟨hn,hz,ht⟩
 refine aH 6 [] ?_;apply bW 7 8 15 F9;intro hg1;refine aC 7 [] ?_;refine fV (α:=A5) T.sl123 ?_;refine aC 1 [] ?_;refine jG 0 T.one215 ?_;refine aC 3 [] ?_;exact dI 7 0;intro hg1;refine aC 7 [] ?_;exact dI 7 0;refine aZ 2 [] ?_;refine dB (fun hc1=>?_) fun hc1=>?_;refine bG 9 [] ?_;rotate_left;refine aH 10 [] ?_;refine aQ (NA T.sl123 F9 F9 F9 sW sW sW) ?_;refine aS 4 [] ?_;refine dA ?_;rotate_left
 · refine cE 3 F9 (show _=Value.int .i64 ((n - 1:Nat):Int) by congr 1;omega) ?_;refine cM (n - 1) ?_ ?_
   · refine ⟨by omega,fun j h1 h2=>?_⟩;rcases aK j n with h3 | h3
     · have e:j=((n:Int) - 1).toNat:=sW;rw [e];exact hc1.2
     exact hz j h3 h2
   omega
 refine done ?_;rcases gK n with h | h
 · exact .inl h
 refine .inr fun h2=>hc1 ⟨by omega,?_⟩;have e:((n:Int) - 1).toNat=n - 1:=sW;rw [e];exact h2
theorem Yx (G:A3) (a b:Option Addr) (ca cb:Nat) (la lb:List A5) (ha:Arr G a la) (hb:Arr G b lb) (da:A7 la) (db:A7 lb) (h1:la.length≤1073741824) (h2:lb.length≤1073741824) (h3:la.length≤ca) (h4:lb.length≤cb) :
 Does Tryz.prog 182 [.slice a la.length ca,.slice b lb.length cb] G [] (fun v G' Ho=>v=.int .i64 (uY (tA la) (tA lb))∧G'=G∧Ho=[]):=by
 refine D0 Tryz.func182 Tryz.ntmps182 fun w=>?_;refine aH 8 [] ?_;refine bS 0 F9 (Nh _ _ _ _ sX sW uI) fun v1 G1 Ho1 hle1 hp=>?_;obtain ⟨ta1,tm1,rfl,hta1,hte1,htr1,htl1,rfl,rfl⟩:=hp;refine aC 1 [] ?_;refine bS 0 F9 (Nh _ _ _ _ sX sW uI) fun v2 G2 Ho2 hle2 hp=>?_;obtain ⟨ta2,tm2,rfl,hta2,hte2,htr2,htl2,rfl,rfl⟩:=hp;refine aZ 16 [] ?_;refine dB (fun hc1=>?_) fun hc1=>?_;refine bG 8 [] ?_;refine dA ?_;rotate_left;refine bL 10 [] ?_;refine dB (fun hc2=>?_) fun hc2=>?_;refine bG 8 [] ?_;refine dA ?_;rotate_left;refine bL 13 [] ?_;rotate_left
 · rw [←xF hte1 htr1,←xF hte2 htr2];exact ⟨by rw [Iy (zT (xB hte1 da) (xB hte2 db) (Eo hte2 htr2) sW)],F9,F9⟩
 · rw [←xF hte1 htr1,←xF hte2 htr2];exact ⟨by rw [Nq (zT (xB hte2 db) (xB hte1 da) (Eo hte1 htr1) sW)],F9,F9⟩
 rw [←xF hte1 htr1,←xF hte2 htr2];have dma:=xB hte1 da;have dmb:=xB hte2 db;have l1:=htr1.1;have l2:=htr2.1;have hn:tm1.length=tm2.length:=sW;refine iA (ι:=Nat) (fun k=>([(5,.int .i64 ((k:Int) - 1)),(1,.slice ta2 (List.length tm2) (List.length tm2)),(0,.slice ta1 (List.length tm1) (List.length tm1))],[])) (fun k=>k≤tm1.length∧∀ j,k≤j→j<tm1.length→lg tm1 j=lg tm2 j) (fun k=>k) (tm1.length) (⟨aI _,fun j h1 h2=>absurd h2 sW⟩) fun k=>fun hk=>?_;obtain ⟨hk1,hz⟩:=hk;rcases gK k with rfl | hpos
 · refine bG 19 [0] ?_;refine dA ?_;have e:tm1=tm2:=by
    have:=Pc (k:=0) hn hz;simpa using this
   exact ⟨by rw [e,Vs rfl],F9,F9⟩
 have e1:(tm1[((k:Int) - 1).toNat]?.getD default).v=lg tm1 (k - 1):=by
  unfold lg;rw [show (((k:Nat):Int) - 1).toNat=((k - 1:Nat):Int).toNat by omega]
 have e2:(tm2[((k:Int) - 1).toNat]?.getD default).v=lg tm2 (k - 1):=by
  unfold lg;rw [show (((k:Nat):Int) - 1).toNat=((k - 1:Nat):Int).toNat by omega]
 have hz':∀ j,(k - 1)+1≤j→j<tm1.length→lg tm1 j=lg tm2 j:=fun j h1 h2=>hz j sW h2;refine bL 14 [1] ?_;refine dK [] [] T.mixed [[0],[1]] ?_;refine mT (α:=A5) 2 T.sl123 ?_;refine rJ 3 [] 0 T.one215 ?_;refine dP [[4],[5]] ?_;refine mT (α:=A5) 6 T.sl123 ?_;refine rJ 7 [] 0 T.one215 ?_;refine dP [[8],[9]] ?_;refine cT ?_;refine cN ?_;refine dB (fun hc3=>?_) fun hc3=>?_;refine bG 12 [] ?_;refine dA ?_;rotate_left;refine dN ?_;refine dK [] [] T.mixed [[0],[1]] ?_;refine mT (α:=A5) 2 T.sl123 ?_;refine rJ 3 [] 0 T.one215 ?_;refine dP [[4],[5]] ?_;refine mT (α:=A5) 6 T.sl123 ?_;refine rJ 7 [] 0 T.one215 ?_;refine dP [[8],[9]] ?_;refine cT ?_;refine cN ?_;refine dB (fun hc4=>?_) fun hc4=>?_;refine bG 12 [] ?_;refine dA ?_;rotate_left;refine bG 9 [] ?_;rotate_left
 · exact ⟨by rw [Iy (Yv hn sW dma dmb hz' sW)],F9,F9⟩
 · exact ⟨by rw [Nq (Yv hn.symm sW dmb dma (fun j h1 h2=>(hz' j h1 sW).symm) sW)],F9,F9⟩
 refine cE 5 F9 (show _=Value.int .i64 (((k - 1:Nat):Int) - 1) by congr 1;omega) ?_;refine cM (k - 1) ?_ ?_
 · refine ⟨by omega,fun j h1 h2=>?_⟩;rcases aK j k with h3 | h3
   · have e:j=k - 1:=sW;rw [e];omega
   exact hz j h3 h2
 omega
theorem XQ (G:A3) (a:Option Addr) (c:Nat) (l:List A5) (hl:Arr G a l) (hb:l.length≤1073741824) (hc:l.length≤c) :
 Does Tryz.prog 185 [.slice a l.length c] G [] (fun v G' Ho=>∃ (b:Option Addr) (m:List A5),v=.slice b m.length m.length∧Arr G' b m∧m=l.take m.length∧E8 l m.length∧m.length≤l.length∧Ho=[]):=by
 refine D0 Tryz.func185 Tryz.ntmps185 fun w=>?_;refine aH 8 [] ?_;refine bS 0 F9 (Nh _ _ _ _ sX sW uI) fun v1 G1 Ho1 hle1 hp=>?_;obtain ⟨ta1,tm1,rfl,hta1,hte1,htr1,htl1,rfl,rfl⟩:=hp;refine aL 7 [] ?_;refine gN (α:=A5) 0 F9 T.sl123 T.el215 F9 F9 sW sW fun b1=>?_;refine aL 7 [] ?_;refine Pd (α:=A5) 0 F9 T.sl123 F9 F9 F9 (lQ sX) (by first | omega | (simp only [aB,aY,cH,aJ];omega)) ?_;refine aS 9 [] ?_;have e1:(List.replicate ((tm1.length:Nat):Int).toNat (default:A5)).length=tm1.length:=by rw [aJ,aF]
 refine gJ 0 (Row 215 tm1 []) F9 (by rw [fD (by rw [e1];exact aI _),bB]) ?_;refine cE 2 F9 (show _=Value.slice (some ⟨b1,0,none⟩) tm1.length tm1.length by rw [e1]) ?_;refine dD 0 F9 (fP (xs:=tm1) Of) fun G9 hle9 hA=>?_;refine dA ?_;exact ⟨_,tm1,F9,hA,hte1,htr1,htl1,F9⟩
end
def D2 (G:A3) (v:Value) (z:Int) (n:Nat):Prop:=∃ (b:Option Addr) (m:List A5),v=.slice b m.length m.length∧Arr G b m∧A7 m∧E9 m∧tA m=z∧m.length≤n
theorem D2.of {G:A3} {b:Option Addr} {l m:List A5} {z:Int} {n:Nat} (h:Arr G b m) (he:m=l.take m.length) (ht:E8 l m.length) (hd:A7 l) (hz:tA l=z) (hn:m.length≤n):D2 G (.slice b m.length m.length) z n:=
 ⟨b,m,F9,h,xB he hd,Eo he ht,(xF he ht).trans hz,hn⟩
abbrev oG:=@D2.of
section
attribute [local irreducible] tA pb uY
theorem fv (G:A3) (a b:Option Addr) (ca cb:Nat) (la lb:List A5) (ha:Arr G a la) (hb:Arr G b lb) (da:A7 la) (db:A7 lb) (h1:la.length≤1073741824) (h2:lb.length≤1073741824) :
 Does Tryz.prog 183 [.slice a la.length ca,.slice b lb.length cb] G [] (fun v G' Ho=>D2 G' v (tA la+tA lb) (max la.length lb.length+1)∧Ho=[]):=by
 refine D0 Tryz.func183 Tryz.ntmps183 fun w=>?_;refine bL 5 [] ?_;refine pL (ι:=Option Addr×Nat×List A5×(Option Addr×Nat×List A5)) (fun (xa,ka,l1,(xb,kb,l2))=>([(0,.slice xa l1.length ka),(1,.slice xb l2.length kb),(4,.slice none 0 0)],[])) (fun (xa,ka,l1,(xb,kb,l2))=>Arr G xa l1∧Arr G xb l2∧A7 l1∧A7 l2∧l2.length≤l1.length∧l1.length≤max la.length lb.length∧tA l1+tA l2=tA la+tA lb) ?_ fun ⟨xa,ka,l1,(xb,kb,l2)⟩=>fun (hk:Arr G xa l1∧Arr G xb l2∧A7 l1∧A7 l2∧l2.length≤l1.length∧l1.length≤max la.length lb.length∧tA l1+tA l2=tA la+tA lb)=>?_
 · by_cases hlt:la.length<lb.length
   · refine bG 16 [1] ?_;refine mU ((b,cb,lb,(a,ca,la))) ?_;exact ⟨hb,ha,db,da,by omega,by omega,sL _ _⟩
   refine bG 11 [0] ?_;refine mU ((a,ca,la,(b,cb,lb))) ?_;exact ⟨ha,hb,da,db,by omega,by omega,F9⟩
 obtain ⟨ha1,hb1,d1,d2,hl21,hl1,hsum⟩:=hk;clear ha hb;refine aH 5 [] ?_;refine gN (α:=A5) 0 F9 T.sl123 T.el215 F9 F9 sW sW fun b1=>?_;refine aZ 17 [] ?_;obtain ⟨N,hN⟩:∃ N,N=l1.length+1:=⟨_,F9⟩
 have hM:((l1.length:Int)+1).toNat=N:=sW;rw [hM];have hown:∀ r:List A5,r.length=N→A4 (some ⟨b1,0,none⟩) N r []:=fun r hr=>.inr ⟨b1,F9,by rw [hr];rfl,by omega,by simp only [maxLen];omega⟩;refine iP 5 F9 (show _=Value.slice (some ⟨b1,0,none⟩) (List.replicate N (default:A5)).length N by rw [aJ]) ?_;refine iA (ι:=Nat×Int×List A5) (fun (i,cy,r)=>([(22,.int .i64 (i:Int)),(6,.int .u64 cy),(5,.slice (some ⟨b1,0,none⟩) r.length N),(21,.int .i64 (l1.length:Int)),(20,.slice xa (List.length l1) ka),(0,.slice xa (List.length l1) ka),(1,.slice xb (List.length l2) kb),(4,.slice none 0 0)],[(0,some b1,Row 215 r [])])) (fun (i,cy,r)=>i≤l1.length∧r.length=N∧A7 r∧0≤cy∧cy≤1∧tA (l1.take i)+tA (l2.take i)=tA (r.take i)+pb i*cy) (fun (i,cy,r)=>l1.length - i) ((0,0,List.replicate N (default:A5))) (⟨aN _,aJ,nY N,by decide,by decide,by rw [bQ,bQ,bQ,bR,fN,uO];rfl⟩) fun ⟨i,cy,r⟩=>fun hk=>?_;obtain ⟨hi,hrN,hdr,hc0,hc1,hv⟩:=hk;have hor:=hown r hrN;rcases aK i l1.length with hia | hia
 · have r1:0≤(l1[(i:Int).toNat]?.getD default).v∧(l1[(i:Int).toNat]?.getD default).v<4294967296:=By d1 hia;rcases aK i l2.length with hib | hib
   · have r2:0≤(l2[(i:Int).toNat]?.getD default).v∧(l2[(i:Int).toNat]?.getD default).v<4294967296:=By d2 hib;refine aH 14 [1] ?_;refine fV (α:=A5) T.sl123 ?_;refine jG 0 T.one215 ?_;refine aL 8 [] ?_;refine aQ (dM F9 T.u214 F9 sW) ?_;refine aQ (jH F9 F9 sW) ?_;refine aL 17 [1] ?_;refine fV (α:=A5) T.sl123 ?_;refine jG 0 T.one215 ?_;refine aQ (dM F9 T.u214 F9 sW) ?_;refine aQ (jH F9 F9 sW) ?_;refine aL 8 [] ?_;refine aQ (iV F9 T.u215 F9) ?_;refine iK (α:=A5) T.sl123 ?_;refine dJ (z:=_) 0 T.size215 F9 F9 F9 sX sW F9 fun ho1=>?_;refine aL 4 [] ?_;refine aQ (gO F9 F9 sW) ?_;refine aS 8 [] ?_;refine gJ 0 (Row 215 (r.set i (⟨(cy+(l1[(i:Int).toNat]?.getD default).v+(l2[(i:Int).toNat]?.getD default).v) % 4294967296⟩:A5)) []) F9 Xv ?_;refine cE 5 F9 (show _=Value.slice (some ⟨b1,0,none⟩) (r.set i (⟨(cy+(l1[(i:Int).toNat]?.getD default).v+(l2[(i:Int).toNat]?.getD default).v) % 4294967296⟩:A5)).length N by rw [aG]) ?_;refine cM ((i+1,(cy+(l1[(i:Int).toNat]?.getD default).v+(l2[(i:Int).toNat]?.getD default).v) / 4294967296,r.set i (⟨(cy+(l1[(i:Int).toNat]?.getD default).v+(l2[(i:Int).toNat]?.getD default).v) % 4294967296⟩:A5))) ?_ ?_
     · exact ⟨by omega,by rw [aG];exact hrN,uM hdr _ (Gr _),by omega,by omega,Iw sW hv F9⟩
     show l1.length - (i+1)<l1.length - i;omega
   have z:=En hib;refine aH 14 [1] ?_;refine fV (α:=A5) T.sl123 ?_;refine jG 0 T.one215 ?_;refine aL 8 [] ?_;refine aQ (dM F9 T.u214 F9 sW) ?_;refine aQ (jH F9 F9 sW) ?_;refine aL 20 [0] ?_;refine aQ (iV F9 T.u215 F9) ?_;refine iK (α:=A5) T.sl123 ?_;refine dJ (z:=_) 0 T.size215 F9 F9 F9 sX sW F9 fun ho1=>?_;refine aL 4 [] ?_;refine aQ (gO F9 F9 sW) ?_;refine aS 8 [] ?_;refine gJ 0 (Row 215 (r.set i (⟨(cy+(l1[(i:Int).toNat]?.getD default).v) % 4294967296⟩:A5)) []) F9 Xv ?_;refine cE 5 F9 (show _=Value.slice (some ⟨b1,0,none⟩) (r.set i (⟨(cy+(l1[(i:Int).toNat]?.getD default).v) % 4294967296⟩:A5)).length N by rw [aG]) ?_;refine cM ((i+1,(cy+(l1[(i:Int).toNat]?.getD default).v) / 4294967296,r.set i (⟨(cy+(l1[(i:Int).toNat]?.getD default).v) % 4294967296⟩:A5))) ?_ ?_
   · exact ⟨by omega,by rw [aG];exact hrN,uM hdr _ (Gr _),by omega,by omega,Iw sW hv (by rw [z,fN];rfl)⟩
   show l1.length - (i+1)<l1.length - i;omega
 have hii:i=l1.length:=sW;subst hii;refine aH 18 [0] ?_;refine aQ (kQ F9 T.u215 F9 sW) ?_;refine iK (α:=A5) T.sl123 ?_;refine dJ (z:=_) 0 T.size215 F9 F9 F9 sX sW F9 fun ho1=>?_;refine aL 5 [] ?_;have hd2:=uM hdr l1.length (s:=cy) sW;have hlen:(r.set l1.length (⟨cy⟩:A5)).length=N:=by rw [aG];exact hrN
 have hval:tA (r.set l1.length (⟨cy⟩:A5))=tA la+tA lb:=by
  rw [uJ (aI _),uJ hl21] at hv;rw [←hsum,hv];have h3:=uQ (r.set l1.length (⟨cy⟩:A5)) l1.length;rw [uJ sW,mV (aI _),Hg sW] at h3;exact h3
 refine oY 0 (Row 215 (r.set l1.length (⟨cy⟩:A5)) []) F9 Xv ?_;refine fR 56 F9 (show _=Value.slice (some ⟨b1,0,none⟩) (r.set l1.length (⟨cy⟩:A5)).length N by rw [aG]) ?_;refine fK 0 F9 (hown _ hlen) fun G9 hle9 hA=>?_;refine bS 1 F9 (Nh _ _ _ _ sX sW uI) fun v1 G1 Ho1 hle1 hp=>?_;obtain ⟨ta1,tm1,rfl,hta1,hte1,htr1,htl1,rfl,rfl⟩:=hp;refine aS 4 [] ?_;refine dA ?_;exact ⟨oG hta1 hte1 htr1 hd2 hval sW,F9⟩
end
section
attribute [local irreducible] tA pb uY
theorem ah (G:A3) (a b:Option Addr) (ca cb:Nat) (la lb:List A5) (ha:Arr G a la) (hb:Arr G b lb) (da:A7 la) (db:A7 lb) (h1:la.length≤1073741824) (h2:lb.length≤la.length) (h3:la.length≤ca) (h4:lb.length≤cb) (hle:tA lb≤tA la) :
 Does Tryz.prog 184 [.slice a la.length ca,.slice b lb.length cb] G [] (fun v G' Ho=>∃ r,v=.tuple #[r,.int .i64 0]∧D2 G' r (tA la - tA lb) la.length∧Ho=[]):=by
 have hcmp:0≤uY (tA la) (tA lb):=by
  rcases Int.lt_or_eq_of_le hle with h | h
  · rw [Nq h];decide
  rw [Vs h.symm];decide
 refine D0 Tryz.func184 Tryz.ntmps184 fun w=>?_;refine aH 11 [] ?_;refine cF F9 (Yx _ _ _ _ _ _ _ sX sX sX sX sW sW sW sW) ?_;refine aL 10 [0] ?_;refine gN (α:=A5) 0 F9 T.sl123 T.el215 F9 F9 sW sW fun b1=>?_;refine aZ 17 [] ?_;obtain ⟨N,hN⟩:∃ N,N=la.length:=⟨_,F9⟩
 have hM:(la.length:Int).toNat=N:=sW;rw [hM];have hown:∀ r:List A5,r.length=N→A4 (some ⟨b1,0,none⟩) N r []:=fun r hr=>.inr ⟨b1,F9,by rw [hr];rfl,by omega,by simp only [maxLen];omega⟩;refine iP 6 F9 (show _=Value.slice (some ⟨b1,0,none⟩) (List.replicate N (default:A5)).length N by rw [aJ]) ?_;refine iA (ι:=Nat×Int×List A5) (fun (i,cy,r)=>([(21,.int .i64 (i:Int)),(7,.int .u64 cy),(6,.slice (some ⟨b1,0,none⟩) r.length N),(20,.int .i64 (la.length:Int)),(19,.slice a (List.length la) ca),(5,.int .i64 0),(4,.slice none 0 0),(1,.slice b (List.length lb) cb)],[(0,some b1,Row 215 r [])])) (fun (i,cy,r)=>i≤la.length∧r.length=N∧A7 r∧0≤cy∧cy≤1∧tA (la.take i) - tA (lb.take i)=tA (r.take i) - pb i*cy) (fun (i,cy,r)=>la.length - i) ((0,0,List.replicate N (default:A5))) (⟨aN _,aJ,nY N,by decide,by decide,by rw [bQ,bQ,bQ,bR,lB,uO];rfl⟩) fun ⟨i,cy,r⟩=>fun hk=>?_;obtain ⟨hi,hrN,hdr,hc0,hc1,hv⟩:=hk;have hor:=hown r hrN;rcases aK i la.length with hia | hia
 · have r1:0≤(la[(i:Int).toNat]?.getD default).v∧(la[(i:Int).toNat]?.getD default).v<4294967296:=By da hia;have e1:(la[(i:Int).toNat]?.getD default).v=lg la i:=rfl;rcases aK i lb.length with hib | hib
   · have r2:0≤(lb[(i:Int).toNat]?.getD default).v∧(lb[(i:Int).toNat]?.getD default).v<4294967296:=By db hib;have e2:(lb[(i:Int).toNat]?.getD default).v=lg lb i:=rfl;by_cases hlt:(la[((i:Nat):Int).toNat]?.getD default).v<cy+(lb[((i:Nat):Int).toNat]?.getD default).v
     · refine aH 14 [1] ?_;refine fV (α:=A5) T.sl123 ?_;refine jG 0 T.one215 ?_;refine aL 24 [1] ?_;refine fV (α:=A5) T.sl123 ?_;refine jG 0 T.one215 ?_;refine aQ (dM F9 T.u214 F9 sW) ?_;refine aQ (jH F9 F9 sW) ?_;refine aL 6 [] ?_;refine aQ (dM F9 T.u214 F9 sW) ?_;refine aC 1 [] ?_;refine aQ (rC F9 F9 sW) ?_;refine aL 8 [] ?_;refine aQ (iV F9 T.u215 F9) ?_;refine iK (α:=A5) T.sl123 ?_;refine dJ (z:=_) 0 T.size215 F9 F9 F9 sX sW F9 fun ho1=>?_;refine aL 4 [] ?_;refine aQ (gO F9 F9 sW) ?_;refine aQ (oW F9 F9 sW) ?_;refine aS 8 [] ?_;have es:((la[(i:Int).toNat]?.getD default).v - (cy+(lb[(i:Int).toNat]?.getD default).v)+18446744073709551616) % 4294967296=((la[(i:Int).toNat]?.getD default).v - (cy+(lb[(i:Int).toNat]?.getD default).v)+4294967296):=sW;have ec:((la[(i:Int).toNat]?.getD default).v - (cy+(lb[(i:Int).toNat]?.getD default).v)+18446744073709551616) / 4294967296 % 2=1:=sW;refine cE 7 F9 (show _=Value.int .u64 1 by rw [ec]) ?_;refine gJ 0 (Row 215 (r.set i (⟨((la[(i:Int).toNat]?.getD default).v - (cy+(lb[(i:Int).toNat]?.getD default).v)+4294967296)⟩:A5)) []) F9 EM ?_;refine cE 6 F9 (show _=Value.slice (some ⟨b1,0,none⟩) (r.set i (⟨((la[(i:Int).toNat]?.getD default).v - (cy+(lb[(i:Int).toNat]?.getD default).v)+4294967296)⟩:A5)).length N by rw [aG]) ?_;refine cM ((i+1,1,r.set i (⟨((la[(i:Int).toNat]?.getD default).v - (cy+(lb[(i:Int).toNat]?.getD default).v)+4294967296)⟩:A5))) ?_ ?_
       · exact ⟨by omega,by rw [aG];exact hrN,uM hdr _ sW,by decide,by decide,Ix (cy':=1) sW hv (by rw [←e1,←e2];omega)⟩
       show la.length - (i+1)<la.length - i;omega
     refine aH 14 [1] ?_;refine fV (α:=A5) T.sl123 ?_;refine jG 0 T.one215 ?_;refine aL 24 [1] ?_;refine fV (α:=A5) T.sl123 ?_;refine jG 0 T.one215 ?_;refine aQ (dM F9 T.u214 F9 sW) ?_;refine aQ (jH F9 F9 sW) ?_;refine aL 6 [] ?_;refine aQ (dM F9 T.u214 F9 sW) ?_;refine aC 1 [] ?_;refine aQ (jZ F9 F9 sW) ?_;refine aL 8 [] ?_;refine aQ (kQ F9 T.u215 F9 sW) ?_;refine iK (α:=A5) T.sl123 ?_;refine dJ (z:=_) 0 T.size215 F9 F9 F9 sX sW F9 fun ho1=>?_;refine aL 4 [] ?_;refine aQ (gO F9 F9 sW) ?_;refine aQ (oW F9 F9 sW) ?_;refine aS 8 [] ?_;have es:((la[(i:Int).toNat]?.getD default).v - (cy+(lb[(i:Int).toNat]?.getD default).v))=((la[(i:Int).toNat]?.getD default).v - (cy+(lb[(i:Int).toNat]?.getD default).v)):=sW;have ec:((la[(i:Int).toNat]?.getD default).v - (cy+(lb[(i:Int).toNat]?.getD default).v)) / 4294967296 % 2=0:=sW;refine cE 7 F9 (show _=Value.int .u64 0 by rw [ec]) ?_;refine gJ 0 (Row 215 (r.set i (⟨((la[(i:Int).toNat]?.getD default).v - (cy+(lb[(i:Int).toNat]?.getD default).v))⟩:A5)) []) F9 EM ?_;refine cE 6 F9 (show _=Value.slice (some ⟨b1,0,none⟩) (r.set i (⟨((la[(i:Int).toNat]?.getD default).v - (cy+(lb[(i:Int).toNat]?.getD default).v))⟩:A5)).length N by rw [aG]) ?_;refine cM ((i+1,0,r.set i (⟨((la[(i:Int).toNat]?.getD default).v - (cy+(lb[(i:Int).toNat]?.getD default).v))⟩:A5))) ?_ ?_
     · exact ⟨by omega,by rw [aG];exact hrN,uM hdr _ sW,by decide,by decide,Ix (cy':=0) sW hv (by rw [←e1,←e2];omega)⟩
     show la.length - (i+1)<la.length - i;omega
   have z:=En hib;by_cases hlt:(la[((i:Nat):Int).toNat]?.getD default).v<cy
   · refine aH 14 [1] ?_;refine fV (α:=A5) T.sl123 ?_;refine jG 0 T.one215 ?_;refine aL 25 [0] ?_;refine aQ (dM F9 T.u214 F9 sW) ?_;refine aC 1 [] ?_;refine aQ (rC F9 F9 sW) ?_;refine aL 8 [] ?_;refine aQ (iV F9 T.u215 F9) ?_;refine iK (α:=A5) T.sl123 ?_;refine dJ (z:=_) 0 T.size215 F9 F9 F9 sX sW F9 fun ho1=>?_;refine aL 4 [] ?_;refine aQ (gO F9 F9 sW) ?_;refine aQ (oW F9 F9 sW) ?_;refine aS 8 [] ?_;have es:((la[(i:Int).toNat]?.getD default).v - (cy)+18446744073709551616) % 4294967296=((la[(i:Int).toNat]?.getD default).v - (cy)+4294967296):=sW;have ec:((la[(i:Int).toNat]?.getD default).v - (cy)+18446744073709551616) / 4294967296 % 2=1:=sW;refine cE 7 F9 (show _=Value.int .u64 1 by rw [ec]) ?_;refine gJ 0 (Row 215 (r.set i (⟨((la[(i:Int).toNat]?.getD default).v - (cy)+4294967296)⟩:A5)) []) F9 EM ?_;refine cE 6 F9 (show _=Value.slice (some ⟨b1,0,none⟩) (r.set i (⟨((la[(i:Int).toNat]?.getD default).v - (cy)+4294967296)⟩:A5)).length N by rw [aG]) ?_;refine cM ((i+1,1,r.set i (⟨((la[(i:Int).toNat]?.getD default).v - (cy)+4294967296)⟩:A5))) ?_ ?_
     · exact ⟨by omega,by rw [aG];exact hrN,uM hdr _ sW,by decide,by decide,Ix (cy':=1) sW hv (by rw [←e1,z];omega)⟩
     show la.length - (i+1)<la.length - i;omega
   refine aH 14 [1] ?_;refine fV (α:=A5) T.sl123 ?_;refine jG 0 T.one215 ?_;refine aL 25 [0] ?_;refine aQ (dM F9 T.u214 F9 sW) ?_;refine aC 1 [] ?_;refine aQ (jZ F9 F9 sW) ?_;refine aL 8 [] ?_;refine aQ (kQ F9 T.u215 F9 sW) ?_;refine iK (α:=A5) T.sl123 ?_;refine dJ (z:=_) 0 T.size215 F9 F9 F9 sX sW F9 fun ho1=>?_;refine aL 4 [] ?_;refine aQ (gO F9 F9 sW) ?_;refine aQ (oW F9 F9 sW) ?_;refine aS 8 [] ?_;have es:((la[(i:Int).toNat]?.getD default).v - (cy))=((la[(i:Int).toNat]?.getD default).v - (cy)):=sW;have ec:((la[(i:Int).toNat]?.getD default).v - (cy)) / 4294967296 % 2=0:=sW;refine cE 7 F9 (show _=Value.int .u64 0 by rw [ec]) ?_;refine gJ 0 (Row 215 (r.set i (⟨((la[(i:Int).toNat]?.getD default).v - (cy))⟩:A5)) []) F9 EM ?_;refine cE 6 F9 (show _=Value.slice (some ⟨b1,0,none⟩) (r.set i (⟨((la[(i:Int).toNat]?.getD default).v - (cy))⟩:A5)).length N by rw [aG]) ?_;refine cM ((i+1,0,r.set i (⟨((la[(i:Int).toNat]?.getD default).v - (cy))⟩:A5))) ?_ ?_
   · exact ⟨by omega,by rw [aG];exact hrN,uM hdr _ sW,by decide,by decide,Ix (cy':=0) sW hv (by rw [←e1,z];omega)⟩
   show la.length - (i+1)<la.length - i;omega
 have hii:i=la.length:=sW;subst hii;refine aH 15 [0] ?_;refine fK 0 F9 hor fun G9 hle9 hA=>?_;refine bS 1 F9 (Nh _ _ _ _ sX sW uI) fun v1 G1 Ho1 hle1 hp=>?_;obtain ⟨ta1,tm1,rfl,hta1,hte1,htr1,htl1,rfl,rfl⟩:=hp;refine aS 5 [] ?_;refine iB ?_;exact ⟨_,F9,oG hta1 hte1 htr1 hdr (SW F9 h2 hle sW hdr ⟨hc0,hc1⟩ hv) sW,F9⟩
end
theorem Iz (n k:Nat):lg (List.replicate n (default:A5)) k=0:=by
 unfold lg;rw [aF,fW];split <;> rfl
section
attribute [local irreducible] tA pb uY
theorem fw (G:A3) (a b:Option Addr) (ca cb:Nat) (la lb:List A5) (ha:Arr G a la) (hb:Arr G b lb) (da:A7 la) (db:A7 lb) (h1:la.length≤536870912) (h2:lb.length≤536870912) :
 Does Tryz.prog 134 [.slice a la.length ca,.slice b lb.length cb] G [] (fun v G' Ho=>D2 G' v (tA la*tA lb) (la.length+lb.length)∧Ho=[]):=by
 refine D0 Tryz.func134 Tryz.ntmps134 fun w=>?_;refine aH 12 [] ?_;refine gN (α:=A5) 0 F9 T.sl123 T.el215 F9 F9 sW sW fun b1=>?_;refine aZ 12 [] ?_;obtain ⟨N,hN⟩:∃ N,N=la.length+lb.length:=⟨_,F9⟩
 have hM:((la.length:Int)+(lb.length:Int)).toNat=N:=sW;rw [hM];have hown:∀ r:List A5,r.length=N→A4 (some ⟨b1,0,none⟩) N r []:=fun r hr=>.inr ⟨b1,F9,by rw [hr];rfl,by omega,by simp only [maxLen];omega⟩;refine iP 5 F9 (show _=Value.slice (some ⟨b1,0,none⟩) (List.replicate N (default:A5)).length N by rw [aJ]) ?_;refine iA (ι:=Nat×List A5) (fun (i,r)=>([(19,.int .i64 (i:Int)),(5,.slice (some ⟨b1,0,none⟩) r.length N),(18,.int .i64 (la.length:Int)),(17,.slice a (List.length la) ca),(4,.slice none 0 0),(1,.slice b (List.length lb) cb)],[(0,some b1,Row 215 r [])])) (fun (i,r)=>i≤la.length∧r.length=N∧A7 r∧tA r=tA (la.take i)*tA lb∧∀ k,i+lb.length≤k→lg r k=0) (fun (i,r)=>la.length - i) ((0,List.replicate N (default:A5))) (⟨aN _,aJ,nY N,by rw [bQ,uO,eV];exact Bf N,fun k _=>Iz N k⟩) fun ⟨i,r⟩=>fun hk=>?_;obtain ⟨hi,hrN,hdr,hv,hz⟩:=hk;rcases aK i la.length with hia | hia
 · have hxi:0≤(la[(i:Int).toNat]?.getD default).v∧(la[(i:Int).toNat]?.getD default).v<4294967296:=By da hia;refine aH 14 [1] ?_;refine fV (α:=A5) T.sl123 ?_;refine jG 0 T.one215 ?_;refine aZ 18 [] ?_;refine iA (ι:=Nat×Int×List A5) (fun (j,c,s)=>([(26,.int .i64 (j:Int)),(8,.int .u64 c),(5,.slice (some ⟨b1,0,none⟩) s.length N),(17,.slice a la.length ca),(18,.int .i64 (la.length:Int)),(25,.int .i64 (lb.length:Int)),(24,.slice b (List.length lb) cb),(7,.int .u32 (Go.Sl.A5.v (Option.getD la[Int.toNat (↑i:Int)]? default))),(6,.int .i64 (↑i:Int)),(19,.int .i64 (↑i:Int)),(4,.slice none 0 0),(1,.slice b (List.length lb) cb)],[(0,some b1,Row 215 s [])])) (fun (j,c,s)=>0≤c∧c≤4294967295∧s.length=N∧A7 s∧tA s+pb (i+j)*c=tA (la.take i)*tA lb+pb i*(lg la i*tA (lb.take j))∧j≤lb.length∧∀ k,i+lb.length≤k→lg s k=0) (fun (j,c,s)=>lb.length - j) ((0,0,r)) (⟨by decide,by decide,hrN,hdr,by rw [bR,bQ,uO,bR,bR,fN,fN];exact hv,aN _,hz⟩) fun ⟨j,c,s⟩=>fun hk=>?_;obtain ⟨hc0,hc1,hsN,hds,hvs,hjl,hzs⟩:=hk;have hos:=hown s hsN;have ekk:((i:Int)+(j:Int)).toNat=i+j:=sW;rcases aK j lb.length with hjb | hjb
   · have hyj:0≤(lb[(j:Int).toNat]?.getD default).v∧(lb[(j:Int).toNat]?.getD default).v<4294967296:=By db hjb;have hxy:=Df hxi hyj;have hxy2:0≤(la[(i:Int).toNat]?.getD default).v*(lb[(j:Int).toNat]?.getD default).v∧(la[(i:Int).toNat]?.getD default).v*(lb[(j:Int).toNat]?.getD default).v≤18446744073709551615:=sW;have hsk:0≤(s[((i:Int)+(j:Int)).toNat]?.getD default).v∧(s[((i:Int)+(j:Int)).toNat]?.getD default).v<4294967296:=hds.at sW;refine aH 14 [1] ?_;refine fV (α:=A5) T.sl123 ?_;refine jG 0 T.one215 ?_;refine aL 8 [] ?_;refine aQ (dM F9 T.u214 F9 sW) ?_;refine aC 1 [] ?_;refine aQ (dM F9 T.u214 F9 sW) ?_;refine aQ (qA F9 F9 uI) ?_;refine aC 4 [] ?_;refine iK (α:=A5) T.sl123 ?_;refine nG 0 0 T.one215 ?_;refine aQ (dM F9 T.u214 F9 sW) ?_;refine aQ (jH F9 F9 sW) ?_;refine aQ (jH F9 F9 sW) ?_;refine aL 10 [] ?_;refine aQ (iV F9 T.u215 F9) ?_;refine iK (α:=A5) T.sl123 ?_;refine dJ (z:=_) 0 T.size215 F9 F9 F9 sX sW F9 fun ho1=>?_;refine aL 4 [] ?_;refine aQ (gO F9 F9 sW) ?_;refine aS 8 [] ?_;rw [ekk] at ⊢ hsk;refine cE 5 F9 (show _=Value.slice (some ⟨b1,0,none⟩) (s.set (i+j) (⟨(c+((la[(i:Int).toNat]?.getD default).v*(lb[(j:Int).toNat]?.getD default).v+(s[i+j]?.getD default).v)) % 4294967296⟩:A5)).length N by rw [aG]) ?_;refine cM ((j+1,(c+((la[(i:Int).toNat]?.getD default).v*(lb[(j:Int).toNat]?.getD default).v+(s[i+j]?.getD default).v)) / 4294967296,s.set (i+j) (⟨(c+((la[(i:Int).toNat]?.getD default).v*(lb[(j:Int).toNat]?.getD default).v+(s[i+j]?.getD default).v)) % 4294967296⟩:A5))) ?_ ?_
     · exact ⟨by omega,by omega,by rw [aG];exact hsN,uM hds _ (Gr _),II sW hvs (by simp only [lg,aF]),by omega,fun k hk=>by rw [zG sW];exact hzs k hk⟩
     show lb.length - (j+1)<lb.length - j;omega
   have hjj:j=lb.length:=sW;subst hjj;refine aH 19 [0] ?_;refine aQ (kQ F9 T.u215 F9 sW) ?_;refine iK (α:=A5) T.sl123 ?_;refine dJ (z:=_) 0 T.size215 F9 F9 F9 sX sW F9 fun ho1=>?_;refine aS 7 [] ?_;rw [ekk];refine cE 5 F9 (show _=Value.slice (some ⟨b1,0,none⟩) (s.set (i+lb.length) (⟨c⟩:A5)).length N by rw [aG]) ?_;refine cM ((i+1,s.set (i+lb.length) (⟨c⟩:A5))) ?_ ?_
   · exact ⟨by omega,by rw [aG];exact hsN,uM hds _ sW,MO sW (hzs _ (aI _)) hvs,fun k hk=>by rw [zG sW];exact hzs k sW⟩
   show la.length - (i+1)<la.length - i;omega
 have hor:=hown r hrN;rw [uJ hia] at hv;refine aH 15 [0] ?_;refine fK 0 F9 hor fun G9 hle9 hA=>?_;refine bS 1 F9 (Nh _ _ _ _ sX sW uI) fun v1 G1 Ho1 hle1 hp=>?_;obtain ⟨ta1,tm1,rfl,hta1,hte1,htr1,htl1,rfl,rfl⟩:=hp;refine aS 4 [] ?_;refine dA ?_;exact ⟨oG hta1 hte1 htr1 hdr hv sW,F9⟩
theorem gb (G:A3) (a:Option Addr) (ca:Nat) (la:List A5) (B:Int) (ha:Arr G a la) (da:A7 la) (h1:la.length≤1073741824) (hB:0<B) (hB2:B<4294967296) :
 Does Tryz.prog 248 [.slice a la.length ca,.int .u32 B] G [] (fun v G' Ho=>∃ r q m,v=.tuple #[r,.int .u32 m,.int .i64 0]∧D2 G' r q la.length∧tA la=q*B+m∧0≤m∧m<B∧Ho=[]):=by
 refine D0 Tryz.func248 Tryz.ntmps248 fun w=>?_;refine aH 21 [0] ?_;refine gN (α:=A5) 0 F9 T.sl123 T.el215 F9 F9 sW sW fun b1=>?_;refine aZ 18 [] ?_;obtain ⟨N,hN⟩:∃ N,N=la.length:=⟨_,F9⟩
 have hM:(la.length:Int).toNat=N:=sW;rw [hM];have hown:∀ r:List A5,r.length=N→A4 (some ⟨b1,0,none⟩) N r []:=fun r hr=>.inr ⟨b1,F9,by rw [hr];rfl,by omega,by simp only [maxLen];omega⟩;refine iP 7 F9 (show _=Value.slice (some ⟨b1,0,none⟩) (List.replicate N (default:A5)).length N by rw [aJ]) ?_;refine iA (ι:=Nat×Int×List A5) (fun (k,r,q)=>([(9,.int .i64 ((k:Int) - 1)),(8,.int .u64 r),(7,.slice (some ⟨b1,0,none⟩) q.length N),(6,.int .i64 0),(5,.int .u32 0),(4,.slice none 0 0),(0,.slice a (List.length la) ca),(1,.int .u32 B)],[(0,some b1,Row 215 q [])])) (fun (k,r,q)=>k≤la.length∧q.length=N∧A7 q∧0≤r∧r<B∧tA (la.drop k)=tA (q.drop k)*B+r) (fun (k,r,q)=>k) ((la.length,0,List.replicate N (default:A5))) (⟨aI _,aJ,nY N,by decide,hB,by rw [fD (aI _),fD EN,uO,eV];rfl⟩) fun ⟨k,r,q⟩=>fun hk=>?_;obtain ⟨hk1,hqN,hdq,hr0,hr1,hv⟩:=hk;have hoq:=hown q hqN;rcases gK k with rfl | hpos
 · rw [nN,nN] at hv;refine aH 16 [0] ?_;refine fK 0 F9 hoq fun G9 hle9 hA=>?_;refine bS 1 F9 (Nh _ _ _ _ sX sW uI) fun v1 G1 Ho1 hle1 hp=>?_;obtain ⟨ta1,tm1,rfl,hta1,hte1,htr1,htl1,rfl,rfl⟩:=hp;refine aC 1 [] ?_;refine aQ (kQ F9 T.u215 F9 sW) ?_;refine aS 6 [] ?_;refine kT ?_;exact ⟨_,_,_,F9,oG hta1 hte1 htr1 hdq F9 sW,hv,hr0,hr1,F9⟩
 obtain ⟨i,rfl⟩:∃ i,k=i+1:=⟨k - 1,by omega⟩
 have hai:=By da (show i<la.length by omega);have ei:(((i+1:Nat):Int) - 1).toNat=i:=sW;have eA:(la[(((i+1:Nat):Int) - 1).toNat]?.getD default).v=lg la i:=by unfold lg;rw [ei,aF]
 have hsl:=IJ ⟨hr0,hr1⟩ hai;have hsl':0≤(r*4294967296+(la[(((i+1:Nat):Int) - 1).toNat]?.getD default).v) / B∧(r*4294967296+(la[(((i+1:Nat):Int) - 1).toNat]?.getD default).v) / B≤4294967295:=by
  rw [eA];exact ⟨hsl.1,by have:=hsl.2;omega⟩
 have hrm:0≤(r*4294967296+lg la i) % B∧(r*4294967296+lg la i) % B<B:=⟨lI _ sW,gL _ hB⟩
 refine aH 15 [1] ?_;refine aQ (sA F9 F9 sW) ?_;refine aC 2 [] ?_;refine fV (α:=A5) T.sl123 ?_;refine jG 0 T.one215 ?_;refine aQ (dM F9 T.u214 F9 sW) ?_;refine aQ (Iu F9 F9 sW sW) ?_;refine aL 9 [] ?_;refine aQ (dM F9 T.u214 F9 sW) ?_;refine aQ (Sx F9 F9 sW) ?_;refine aQ (kQ F9 T.u215 F9 sW) ?_;refine iK (α:=A5) T.sl123 ?_;refine dJ (z:=_) 0 T.size215 F9 F9 F9 sX sW F9 fun ho1=>?_;refine aL 5 [] ?_;refine aQ (dM F9 T.u214 F9 sW) ?_;refine aQ (nI F9 F9 sW) ?_;refine aS 9 [] ?_;rw [eA];refine cE 9 F9 (show _=Value.int .i64 ((i:Int) - 1) by congr 1;omega) ?_;refine gJ 0 (Row 215 (q.set i ⟨(r*4294967296+lg la i) / B⟩) []) F9 (by rw [ei]) ?_;refine cE 7 F9 (show _=Value.slice (some ⟨b1,0,none⟩) (q.set i ⟨(r*4294967296+lg la i) / B⟩).length N by rw [aG]) ?_;refine cM ((i,(r*4294967296+lg la i) % B,q.set i ⟨(r*4294967296+lg la i) / B⟩)) ?_ ?_
 · exact ⟨by omega,by rw [aG];exact hqN,uM hdq _ hsl,hrm.1,hrm.2,Yu sW sW hv⟩
 show i<i+1;omega
end
theorem FA {r s:List A5} {i:Nat} (h:s.drop i=r.drop i):lg s i=lg r i:=by
 have e:s[i]?=r[i]?:=by
  have:=congrArg (·[0]?) h;simpa [jC] using this
 unfold lg;rw [aF,e]
theorem xG {r s:List A5} {i:Nat} (h:s.drop i=r.drop i) (d:A5):(s.set i d).drop (i+1)=r.drop (i+1):=by
 rw [List.drop_set_of_lt sW,←pA,←pA,h]
section
attribute [local irreducible] tA pb uY
theorem gd (G:A3) (b:Nat) (p u q:List A5) (junk:List Value) (cw:Nat) (v:Option Addr) (cv:Nat) (lv:List A5) (t:Int) (hv:Arr G v lv) (du:A7 u) (dv:A7 lv) (h1:u.length≤1073741824) (h2:lv.length<u.length) (ht:0≤t∧t<4294967296) :
 Does Tryz.prog 269 [.slice (some ⟨b,p.length,none⟩) u.length cw,.slice v lv.length cv,.int .u64 t] G [(0,some b,Row 215 (p++(u++q)) junk)] (fun r G' Ho=>∃ (w:List A5) (o:Int),r=.bool (decide (0<o))∧Ho=[(0,some b,Row 215 (p++(w++q)) junk)]∧G'=G∧(o=0∨o=1)∧w.length=u.length∧A7 w∧tA u - t*tA lv=tA w - pb u.length*o):=by
 refine D0 Tryz.func269 Tryz.ntmps269 fun w=>?_;refine bL 20 [] ?_;refine iA (ι:=Nat×Int×Int×List A5) (fun (i,c,o,w)=>([(13,.int .i64 (i:Int)),(7,.int .u64 c),(8,.int .u64 o),(12,.int .i64 (u.length:Int)),(6,.bool Bool.false),(0,.slice (some (Addr.mk b (List.length p) none)) (List.length u) cw),(1,.slice v (List.length lv) cv),(2,.int .u64 t)],[(0,some b,Row 215 (p++(w++q)) junk)])) (fun (i,c,o,w)=>i≤u.length∧w.length=u.length∧A7 w∧0≤c∧c<4294967296∧0≤o∧o≤1∧(lv.length<i→c=0)∧w.drop i=u.drop i∧tA (u.take i) - t*tA (lv.take i)=tA (w.take i) - pb i*(o+c)) (fun (i,c,o,w)=>u.length - i) ((0,0,0,u)) (⟨aN _,F9,du,by decide,by decide,by decide,by decide,fun _=>rfl,F9,by rw [bQ,bQ,uO,bR,fN,bR]⟩) fun ⟨i,c,o,w⟩=>fun hk=>?_;obtain ⟨hi,hwn,hdw,hc0,hc1,ho0,ho1,hcz,hdrop,hval⟩:=hk;rcases aK i u.length with hia | hia
 · have hx:0≤(w[(i:Int).toNat]?.getD default).v∧(w[(i:Int).toNat]?.getD default).v<4294967296:=By hdw sW;have ex:(w[(i:Int).toNat]?.getD default).v=lg u i:=FA hdrop;rcases aK i lv.length with hib | hib
   · have hy:0≤(lv[(i:Int).toNat]?.getD default).v∧(lv[(i:Int).toNat]?.getD default).v<4294967296:=By dv hib;have hca:=DD ⟨hc0,hc1⟩ hy ht;have hm:0≤(lv[(i:Int).toNat]?.getD default).v*t∧(lv[(i:Int).toNat]?.getD default).v*t≤18446744073709551615:=sW;by_cases hlt:(w[((i:Nat):Int).toNat]?.getD default).v<(c+(lv[((i:Nat):Int).toNat]?.getD default).v*t) % 4294967296
     · refine aH 31 [1,1] ?_;refine fV (α:=A5) T.sl123 ?_;refine jG 0 T.one215 ?_;refine aQ (dM F9 T.u214 F9 sW) ?_;refine aC 1 [] ?_;refine aQ (qA F9 F9 uI) ?_;refine aQ (jH F9 F9 sW) ?_;refine aL 7 [] ?_;refine aQ (dC T.sl123 F9 F9 sW) ?_;refine aQ (mE 0 T.one215 F9 F9 sW) ?_;refine aQ (dM F9 T.u214 F9 sW) ?_;refine aC 1 [] ?_;refine aQ (qB F9 F9 sW) ?_;refine aQ (rC F9 F9 sW) ?_;refine aC 1 [] ?_;refine aQ (jZ F9 F9 sW) ?_;refine aL 6 [] ?_;refine aQ (gO F9 F9 sW) ?_;refine aL 8 [] ?_;refine aQ (iV F9 T.u215 F9) ?_;refine aQ (dC T.sl123 F9 F9 sW) ?_;refine qI 0 T.size215 F9 F9 F9 sW ?_;refine aL 4 [] ?_;refine aQ (gO F9 F9 sW) ?_;refine aQ (oW F9 F9 sW) ?_;refine aS 8 [] ?_;have es:((w[(i:Int).toNat]?.getD default).v - (c+(lv[(i:Int).toNat]?.getD default).v*t) % 4294967296+18446744073709551616 - o) % 4294967296=((w[(i:Int).toNat]?.getD default).v - (c+(lv[(i:Int).toNat]?.getD default).v*t) % 4294967296 - o+4294967296*1):=sW;have ec:((w[(i:Int).toNat]?.getD default).v - (c+(lv[(i:Int).toNat]?.getD default).v*t) % 4294967296+18446744073709551616 - o) / 4294967296 % 2=1:=sW;refine cE 8 F9 (show _=Value.int .u64 1 by rw [ec]) ?_;refine gJ 0 (Row 215 (p++(w.set i (⟨((w[(i:Int).toNat]?.getD default).v - (c+(lv[(i:Int).toNat]?.getD default).v*t) % 4294967296 - o+4294967296*1)⟩:A5)++q)) junk) F9 Sm ?_;refine cM ((i+1,(c+(lv[(i:Int).toNat]?.getD default).v*t) / 4294967296,1,w.set i (⟨((w[(i:Int).toNat]?.getD default).v - (c+(lv[(i:Int).toNat]?.getD default).v*t) % 4294967296 - o+4294967296*1)⟩:A5))) ?_ ?_
       · exact ⟨by omega,by rw [aG];exact hwn,uM hdw _ sW,by omega,by omega,by decide,by decide,by omega,xG hdrop _,As (c':=(c+(lv[(i:Int).toNat]?.getD default).v*t)) (b:=o) (b':=1) sW hval (by rfl) (by rw [←ex])⟩
       show u.length - (i+1)<u.length - i;omega
     by_cases hlt2:(w[((i:Nat):Int).toNat]?.getD default).v - (c+(lv[((i:Nat):Int).toNat]?.getD default).v*t) % 4294967296<o
     · refine aH 31 [1,1] ?_;refine fV (α:=A5) T.sl123 ?_;refine jG 0 T.one215 ?_;refine aQ (dM F9 T.u214 F9 sW) ?_;refine aC 1 [] ?_;refine aQ (qA F9 F9 uI) ?_;refine aQ (jH F9 F9 sW) ?_;refine aL 7 [] ?_;refine aQ (dC T.sl123 F9 F9 sW) ?_;refine aQ (mE 0 T.one215 F9 F9 sW) ?_;refine aQ (dM F9 T.u214 F9 sW) ?_;refine aC 1 [] ?_;refine aQ (qB F9 F9 sW) ?_;refine aQ (jZ F9 F9 sW) ?_;refine aC 1 [] ?_;refine aQ (rC F9 F9 sW) ?_;refine aL 6 [] ?_;refine aQ (gO F9 F9 sW) ?_;refine aL 8 [] ?_;refine aQ (iV F9 T.u215 F9) ?_;refine aQ (dC T.sl123 F9 F9 sW) ?_;refine qI 0 T.size215 F9 F9 F9 sW ?_;refine aL 4 [] ?_;refine aQ (gO F9 F9 sW) ?_;refine aQ (oW F9 F9 sW) ?_;refine aS 8 [] ?_;have es:((w[(i:Int).toNat]?.getD default).v - (c+(lv[(i:Int).toNat]?.getD default).v*t) % 4294967296 - o+18446744073709551616) % 4294967296=((w[(i:Int).toNat]?.getD default).v - (c+(lv[(i:Int).toNat]?.getD default).v*t) % 4294967296 - o+4294967296*1):=sW;have ec:((w[(i:Int).toNat]?.getD default).v - (c+(lv[(i:Int).toNat]?.getD default).v*t) % 4294967296 - o+18446744073709551616) / 4294967296 % 2=1:=sW;refine cE 8 F9 (show _=Value.int .u64 1 by rw [ec]) ?_;refine gJ 0 (Row 215 (p++(w.set i (⟨((w[(i:Int).toNat]?.getD default).v - (c+(lv[(i:Int).toNat]?.getD default).v*t) % 4294967296 - o+4294967296*1)⟩:A5)++q)) junk) F9 Sm ?_;refine cM ((i+1,(c+(lv[(i:Int).toNat]?.getD default).v*t) / 4294967296,1,w.set i (⟨((w[(i:Int).toNat]?.getD default).v - (c+(lv[(i:Int).toNat]?.getD default).v*t) % 4294967296 - o+4294967296*1)⟩:A5))) ?_ ?_
       · exact ⟨by omega,by rw [aG];exact hwn,uM hdw _ sW,by omega,by omega,by decide,by decide,by omega,xG hdrop _,As (c':=(c+(lv[(i:Int).toNat]?.getD default).v*t)) (b:=o) (b':=1) sW hval (by rfl) (by rw [←ex])⟩
       show u.length - (i+1)<u.length - i;omega
     refine aH 31 [1,1] ?_;refine fV (α:=A5) T.sl123 ?_;refine jG 0 T.one215 ?_;refine aQ (dM F9 T.u214 F9 sW) ?_;refine aC 1 [] ?_;refine aQ (qA F9 F9 uI) ?_;refine aQ (jH F9 F9 sW) ?_;refine aL 7 [] ?_;refine aQ (dC T.sl123 F9 F9 sW) ?_;refine aQ (mE 0 T.one215 F9 F9 sW) ?_;refine aQ (dM F9 T.u214 F9 sW) ?_;refine aC 1 [] ?_;refine aQ (qB F9 F9 sW) ?_;refine aQ (jZ F9 F9 sW) ?_;refine aC 1 [] ?_;refine aQ (jZ F9 F9 sW) ?_;refine aL 6 [] ?_;refine aQ (gO F9 F9 sW) ?_;refine aL 8 [] ?_;refine aQ (kQ F9 T.u215 F9 sW) ?_;refine aQ (dC T.sl123 F9 F9 sW) ?_;refine qI 0 T.size215 F9 F9 F9 sW ?_;refine aL 4 [] ?_;refine aQ (gO F9 F9 sW) ?_;refine aQ (oW F9 F9 sW) ?_;refine aS 8 [] ?_;have es:((w[(i:Int).toNat]?.getD default).v - (c+(lv[(i:Int).toNat]?.getD default).v*t) % 4294967296 - o)=((w[(i:Int).toNat]?.getD default).v - (c+(lv[(i:Int).toNat]?.getD default).v*t) % 4294967296 - o+4294967296*0):=sW;have ec:((w[(i:Int).toNat]?.getD default).v - (c+(lv[(i:Int).toNat]?.getD default).v*t) % 4294967296 - o) / 4294967296 % 2=0:=sW;refine cE 8 F9 (show _=Value.int .u64 0 by rw [ec]) ?_;refine gJ 0 (Row 215 (p++(w.set i (⟨((w[(i:Int).toNat]?.getD default).v - (c+(lv[(i:Int).toNat]?.getD default).v*t) % 4294967296 - o+4294967296*0)⟩:A5)++q)) junk) F9 Sm ?_;refine cM ((i+1,(c+(lv[(i:Int).toNat]?.getD default).v*t) / 4294967296,0,w.set i (⟨((w[(i:Int).toNat]?.getD default).v - (c+(lv[(i:Int).toNat]?.getD default).v*t) % 4294967296 - o+4294967296*0)⟩:A5))) ?_ ?_
     · exact ⟨by omega,by rw [aG];exact hwn,uM hdw _ sW,by omega,by omega,by decide,by decide,by omega,xG hdrop _,As (c':=(c+(lv[(i:Int).toNat]?.getD default).v*t)) (b:=o) (b':=0) sW hval (by rfl) (by rw [←ex])⟩
     show u.length - (i+1)<u.length - i;omega
   have z:=En hib;by_cases hlt:(w[((i:Nat):Int).toNat]?.getD default).v<(c) % 4294967296
   · refine aH 33 [1,0] ?_;refine aQ (dC T.sl123 F9 F9 sW) ?_;refine aQ (mE 0 T.one215 F9 F9 sW) ?_;refine aQ (dM F9 T.u214 F9 sW) ?_;refine aC 1 [] ?_;refine aQ (qB F9 F9 sW) ?_;refine aQ (rC F9 F9 sW) ?_;refine aC 1 [] ?_;refine aQ (jZ F9 F9 sW) ?_;refine aL 6 [] ?_;refine aQ (gO F9 F9 sW) ?_;refine aL 8 [] ?_;refine aQ (iV F9 T.u215 F9) ?_;refine aQ (dC T.sl123 F9 F9 sW) ?_;refine qI 0 T.size215 F9 F9 F9 sW ?_;refine aL 4 [] ?_;refine aQ (gO F9 F9 sW) ?_;refine aQ (oW F9 F9 sW) ?_;refine aS 8 [] ?_;have es:((w[(i:Int).toNat]?.getD default).v - (c) % 4294967296+18446744073709551616 - o) % 4294967296=((w[(i:Int).toNat]?.getD default).v - (c) % 4294967296 - o+4294967296*1):=sW;have ec:((w[(i:Int).toNat]?.getD default).v - (c) % 4294967296+18446744073709551616 - o) / 4294967296 % 2=1:=sW;refine cE 8 F9 (show _=Value.int .u64 1 by rw [ec]) ?_;refine gJ 0 (Row 215 (p++(w.set i (⟨((w[(i:Int).toNat]?.getD default).v - (c) % 4294967296 - o+4294967296*1)⟩:A5)++q)) junk) F9 Sm ?_;refine cM ((i+1,(c) / 4294967296,1,w.set i (⟨((w[(i:Int).toNat]?.getD default).v - (c) % 4294967296 - o+4294967296*1)⟩:A5))) ?_ ?_
     · exact ⟨by omega,by rw [aG];exact hwn,uM hdw _ sW,by omega,by omega,by decide,by decide,by intro _;omega,xG hdrop _,As (c':=(c)) (b:=o) (b':=1) sW hval KY (by rw [←ex])⟩
     show u.length - (i+1)<u.length - i;omega
   by_cases hlt2:(w[((i:Nat):Int).toNat]?.getD default).v - (c) % 4294967296<o
   · refine aH 33 [1,0] ?_;refine aQ (dC T.sl123 F9 F9 sW) ?_;refine aQ (mE 0 T.one215 F9 F9 sW) ?_;refine aQ (dM F9 T.u214 F9 sW) ?_;refine aC 1 [] ?_;refine aQ (qB F9 F9 sW) ?_;refine aQ (jZ F9 F9 sW) ?_;refine aC 1 [] ?_;refine aQ (rC F9 F9 sW) ?_;refine aL 6 [] ?_;refine aQ (gO F9 F9 sW) ?_;refine aL 8 [] ?_;refine aQ (iV F9 T.u215 F9) ?_;refine aQ (dC T.sl123 F9 F9 sW) ?_;refine qI 0 T.size215 F9 F9 F9 sW ?_;refine aL 4 [] ?_;refine aQ (gO F9 F9 sW) ?_;refine aQ (oW F9 F9 sW) ?_;refine aS 8 [] ?_;have es:((w[(i:Int).toNat]?.getD default).v - (c) % 4294967296 - o+18446744073709551616) % 4294967296=((w[(i:Int).toNat]?.getD default).v - (c) % 4294967296 - o+4294967296*1):=sW;have ec:((w[(i:Int).toNat]?.getD default).v - (c) % 4294967296 - o+18446744073709551616) / 4294967296 % 2=1:=sW;refine cE 8 F9 (show _=Value.int .u64 1 by rw [ec]) ?_;refine gJ 0 (Row 215 (p++(w.set i (⟨((w[(i:Int).toNat]?.getD default).v - (c) % 4294967296 - o+4294967296*1)⟩:A5)++q)) junk) F9 Sm ?_;refine cM ((i+1,(c) / 4294967296,1,w.set i (⟨((w[(i:Int).toNat]?.getD default).v - (c) % 4294967296 - o+4294967296*1)⟩:A5))) ?_ ?_
     · exact ⟨by omega,by rw [aG];exact hwn,uM hdw _ sW,by omega,by omega,by decide,by decide,by intro _;omega,xG hdrop _,As (c':=(c)) (b:=o) (b':=1) sW hval KY (by rw [←ex])⟩
     show u.length - (i+1)<u.length - i;omega
   refine aH 33 [1,0] ?_;refine aQ (dC T.sl123 F9 F9 sW) ?_;refine aQ (mE 0 T.one215 F9 F9 sW) ?_;refine aQ (dM F9 T.u214 F9 sW) ?_;refine aC 1 [] ?_;refine aQ (qB F9 F9 sW) ?_;refine aQ (jZ F9 F9 sW) ?_;refine aC 1 [] ?_;refine aQ (jZ F9 F9 sW) ?_;refine aL 6 [] ?_;refine aQ (gO F9 F9 sW) ?_;refine aL 8 [] ?_;refine aQ (kQ F9 T.u215 F9 sW) ?_;refine aQ (dC T.sl123 F9 F9 sW) ?_;refine qI 0 T.size215 F9 F9 F9 sW ?_;refine aL 4 [] ?_;refine aQ (gO F9 F9 sW) ?_;refine aQ (oW F9 F9 sW) ?_;refine aS 8 [] ?_;have es:((w[(i:Int).toNat]?.getD default).v - (c) % 4294967296 - o)=((w[(i:Int).toNat]?.getD default).v - (c) % 4294967296 - o+4294967296*0):=sW;have ec:((w[(i:Int).toNat]?.getD default).v - (c) % 4294967296 - o) / 4294967296 % 2=0:=sW;refine cE 8 F9 (show _=Value.int .u64 0 by rw [ec]) ?_;refine gJ 0 (Row 215 (p++(w.set i (⟨((w[(i:Int).toNat]?.getD default).v - (c) % 4294967296 - o+4294967296*0)⟩:A5)++q)) junk) F9 Sm ?_;refine cM ((i+1,(c) / 4294967296,0,w.set i (⟨((w[(i:Int).toNat]?.getD default).v - (c) % 4294967296 - o+4294967296*0)⟩:A5))) ?_ ?_
   · exact ⟨by omega,by rw [aG];exact hwn,uM hdw _ sW,by omega,by omega,by decide,by decide,by intro _;omega,xG hdrop _,As (c':=(c)) (b:=o) (b':=0) sW hval KY (by rw [←ex])⟩
   show u.length - (i+1)<u.length - i;omega
 have hii:i=u.length:=sW;subst hii;have hc:=hcz sW;subst hc;refine bG 20 [0] ?_;refine nT [0] ?_;rw [uJ (aI _),uJ sW,uJ sW,fN] at hval;exact ⟨w,o,F9,F9,F9,by omega,hwn,hdw,hval⟩
end
theorem NC {u v:List A5} {m:Nat} (hu:u.length=m+3) (hv:v.length=m+2) (du:A7 u) (dv:A7 v) (h:tA u<4294967296*tA v):lg u (m+2)*4294967296+lg u (m+1)<lg v (m+1)*4294967296+4294967296:=by
 have e1:=SY hu;have e2:=MU hv;have e3:=yT dv (show m≤v.length by omega);have e4:=yT du (show m≤u.length by omega);have a0:=wA dv m;have b0:=wA du m;have hp:=yS m;generalize lg u (m+2)*4294967296+lg u (m+1)=high at *;generalize lg v (m+1)=v1 at *;generalize lg v m=v0 at *;generalize lg u m=u0 at *;refine Int.lt_of_mul_lt_mul_left (a:=pb m*4294967296) ?_ sW;have f1:=bU (show v0+4294967296*v1+1≤v1*4294967296+4294967296 by omega) (dX hp);have f2:=kS (dX hp) b0.1;rw [cZ,gZ] at f1;rw [cZ,←cO] at e1;have f3:pb m*4294967296*(v1*4294967296+4294967296)=4294967296*(pb m*(v1*4294967296+4294967296)):=by rw [cJ (pb m) 4294967296,cO]
 rw [f3];omega
section
attribute [local irreducible] tA pb uY
theorem gf (G:A3) (b:Nat) (p u q:List A5) (junk:List Value) (cw:Nat) (v:Option Addr) (cv:Nat) (lv:List A5) (m:Nat) (hv:Arr G v lv) (du:A7 u) (dv:A7 lv) (h1:u.length≤1073741824) (hu:u.length=m+3) (hl:lv.length=m+2) (htop:2147483648≤lg lv (m+1)) (hlt:tA u<4294967296*tA lv) :
 Does Tryz.prog 251 [.slice (some ⟨b,p.length,none⟩) u.length cw,.slice v lv.length cv] G [(0,some b,Row 215 (p++(u++q)) junk)] (fun r G' Ho=>∃ (w:List A5) (g:Int),r=.int .u32 g∧Ho=[(0,some b,Row 215 (p++(w++q)) junk)]∧G'=G∧0≤g∧g<4294967296∧w.length=u.length∧A7 w∧tA w=tA u - g*tA lv∧tA w<tA lv):=by
 have hU2:=wA du (m+2);have hU1:=wA du (m+1);have hU0:=wA du m;have hV1:=wA dv (m+1);have hV0:=wA dv m;have eu2:(u[((lv.length:Nat):Int).toNat]?.getD default).v=lg u (m+2):=by unfold lg;rw [hl]
 have eu1:(u[(((lv.length:Nat):Int) - 1).toNat]?.getD default).v=lg u (m+1):=by unfold lg;rw [show (((lv.length:Nat):Int) - 1).toNat=((m+1:Nat):Int).toNat by omega]
 have eu0:(u[(((lv.length:Nat):Int) - 2).toNat]?.getD default).v=lg u m:=by unfold lg;rw [show (((lv.length:Nat):Int) - 2).toNat=(m:Int).toNat by omega]
 have ev1:(lv[(((lv.length:Nat):Int) - 1).toNat]?.getD default).v=lg lv (m+1):=by unfold lg;rw [show (((lv.length:Nat):Int) - 1).toNat=((m+1:Nat):Int).toNat by omega]
 have ev0:(lv[(((lv.length:Nat):Int) - 2).toNat]?.getD default).v=lg lv m:=by unfold lg;rw [show (((lv.length:Nat):Int) - 2).toNat=(m:Int).toNat by omega]
 refine D0 Tryz.func251 Tryz.ntmps251 fun w=>?_;have hp1:0<lg lv (m+1):=sW;obtain ⟨high,hhigh⟩:∃ high,high=lg u (m+2)*4294967296+lg u (m+1):=⟨_,F9⟩
 obtain ⟨hk1,hk2,hk3,hk4,hk5⟩:=MV hu hl du dv hhigh hp1 F9 F9;have hq:=Int.ediv_le_self (lg lv (m+1)) (show 0≤high by omega);have hVm:0<tA lv:=by
  have:=MU hl;have h3:=yT dv (show m≤lv.length by omega);have h4:=Int.mul_pos (yS m) (show 0<lg lv m+4294967296*lg lv (m+1) by omega);omega
 have hUp:tA u<4294967296*tA lv:=hlt;have hbrk:high<lg lv (m+1)*4294967296+4294967296:=hhigh▸NC hu hl du dv hlt;refine bL 5 [] ?_;refine lX ?_;refine bL 8 [] ?_;refine dK [0] [] T.mixed [[0],[1]] ?_;refine eD 2 [] F9 (dC T.sl123 F9 F9 sW) ?_;refine eD 3 [0] F9 (mE 0 T.one215 F9 F9 sW) ?_;refine eD 4 [] F9 (dM F9 T.u214 F9 sW) ?_;refine eD 5 [] F9 (sA F9 F9 sW) ?_;refine dP [[6],[7],[8]] ?_;refine eD 9 [] F9 (dC T.sl123 F9 F9 sW) ?_;refine eD 10 [0] F9 (mE 0 T.one215 F9 F9 sW) ?_;refine eD 11 [] F9 (dM F9 T.u214 F9 sW) ?_;refine eD 12 [] F9 (Iu F9 F9 sW sW) ?_;refine dP [[13]] ?_;refine cT ?_;refine cN ?_;refine pL (ι:=Int×Int) (fun (g,r)=>([(0,.slice (some ⟨b,p.length,none⟩) u.length cw),(1,.slice v lv.length cv),(5,.int .i64 (lv.length:Int)),(7,.int .u64 g),(8,.int .u64 r),(4,.int .u32 0)],[(0,some b,Row 215 (p++(u++q)) junk)])) (fun (g,r)=>g*lg lv (m+1)+r=high∧0≤g∧g≤18446744073709551615∧0≤r∧r<4294967296∧tA u<(g+1)*tA lv) ?_ fun ⟨g,r⟩=>fun (hk:g*lg lv (m+1)+r=high∧0≤g∧g≤18446744073709551615∧0≤r∧r<4294967296∧tA u<(g+1)*tA lv)=>?_
 · refine dK [0] [] T.mixed [[0],[1],[2],[3]] ?_;refine mT (α:=A5) 4 T.sl123 ?_;refine rJ 5 [0] 0 T.one215 ?_;refine eD 6 [] F9 (dM F9 T.u214 F9 sW) ?_;refine eD 7 [] F9 (Sx F9 F9 sW) ?_;refine dP [[8],[9],[10],[11]] ?_;refine mT (α:=A5) 12 T.sl123 ?_;refine rJ 13 [0] 0 T.one215 ?_;refine eD 14 [] F9 (dM F9 T.u214 F9 sW) ?_;refine eD 15 [] F9 (nI F9 F9 sW) ?_;refine dP [[16],[17]] ?_;refine cT ?_;refine cE 7 F9 (show _=Value.int .u64 (high / lg lv (m+1)) by rw [eu2,eu1,ev1,hhigh]) ?_;refine cE 8 F9 (show _=Value.int .u64 (high % lg lv (m+1)) by rw [eu2,eu1,ev1,hhigh]) ?_;refine mU ((high / lg lv (m+1),high % lg lv (m+1))) ?_;exact ⟨hk1,hk2,by omega,hk3,by omega,hk5⟩
 obtain ⟨hg1,hg2,hg3,hr1,hr2,hgu⟩:=hk;clear hk1 hk2 hk3 hk4 hk5 hq;refine bL 3 [] ?_;refine pL (ι:=Int) (fun gg=>([(0,.slice (some ⟨b,p.length,none⟩) u.length cw),(1,.slice v lv.length cv),(5,.int .i64 (lv.length:Int)),(7,.int .u64 gg),(4,.int .u32 0)],[(0,some b,Row 215 (p++(u++q)) junk)])) (fun gg=>0≤gg∧gg<4294967296∧tA u<(gg+1)*tA lv∧(gg - 1)*tA lv≤tA u) ?_ fun gg=>fun (hk:0≤gg∧gg<4294967296∧tA u<(gg+1)*tA lv∧(gg - 1)*tA lv≤tA u)=>?_
 · refine Wc.block ?_;refine iA (ι:=Int×Int) (fun (g,r)=>([(7,.int .u64 g),(8,.int .u64 r),(0,.slice (some (Addr.mk b (List.length p) none)) (List.length u) cw),(1,.slice v (List.length lv) cv),(5,.int .i64 (lv.length:Int)),(4,.int .u32 0)],[(0,some b,Row 215 (p++(u++q)) junk)])) (fun (g,r)=>g*lg lv (m+1)+r=high∧0≤g∧g≤18446744073709551615∧0≤r∧r<4294967296∧tA u<(g+1)*tA lv) (fun (g,r)=>(4294967296 - r).toNat) ((g,r)) (⟨hg1,hg2,hg3,hr1,hr2,hgu⟩) fun ⟨g,r⟩=>fun (hk:g*lg lv (m+1)+r=high∧0≤g∧g≤18446744073709551615∧0≤r∧r<4294967296∧tA u<(g+1)*tA lv)=>?_;clear hg1 hg2 hg3 hr1 hr2 hgu;obtain ⟨hg1,hg2,hg3,hr1,hr2,hgu⟩:=hk;have dec:4294967296≤g∨r*4294967296+lg u m<g*lg lv m→1≤g∧(g - 1)*lg lv (m+1)+(r+lg lv (m+1))=high∧tA u<(g - 1+1)*tA lv:=fun hd=>by
    have hg0:1≤g:=by
     rcases hd with hd | hd
     · omega
     rcases (show g=0∨1≤g by omega) with h | h
     · rw [h,eV] at hd;omega
     exact h
    refine ⟨hg0,by rw [kU,dW];omega,?_⟩;rw [show g - 1+1=g by omega];rcases hd with hd | hd
    · have:=iI hd (dX hVm);omega
    exact XP hu hl du dv hhigh hg1 hg2 hd
   have brk:(g - 1)*lg lv (m+1)+(r+lg lv (m+1))=high→tA u<(g - 1+1)*tA lv→4294967296≤r+lg lv (m+1)→1≤g→0≤g - 1∧g - 1<4294967296∧tA u<(g - 1+1)*tA lv∧(g - 1 - 1)*tA lv≤tA u:=fun h h2 h3 h4=>by
    have hlt':=MT h h3 hp1 hbrk;have hm0:=Df ⟨(show 0≤g - 1 by omega),hlt'⟩ hV0;exact ⟨by omega,hlt',h2,MW hu hl du dv hhigh h ⟨by omega,hlt'⟩ sW sW⟩
   by_cases hgb:g<4294967296
   · have hm0:=Df ⟨hg2,hgb⟩ hV0;have hm:0≤g*(lv[(((lv.length:Nat):Int) - 2).toNat]?.getD default).v∧g*(lv[(((lv.length:Nat):Int) - 2).toNat]?.getD default).v≤18446744073709551615:=by rw [ev0];omega
     by_cases hcond:r*4294967296+lg u m<g*lg lv m
     · obtain ⟨hg0,hnx,hnu⟩:=dec (.inr hcond);have hcond':r*4294967296+(u[(((lv.length:Nat):Int) - 2).toNat]?.getD default).v<g*(lv[(((lv.length:Nat):Int) - 2).toNat]?.getD default).v:=by rw [eu0,ev0];exact hcond
       refine bL 2 [] ?_;refine dK [0] [] T.mixed [[0]] ?_;refine eD 1 [] F9 (gO F9 F9 sW) ?_;refine dP [[2],[3]] ?_;refine Gm.no 45 F9 uI ?_;refine dP [[4],[5],[6],[7]] ?_;refine pV 8 [] F9 (iQ (α:=A5) T.sl123 F9 F9 sX sW) ?_;refine pV 9 [0] F9 (bV T.one215 F9 (gI sX sW 0 F9 F9)) ?_;refine pV 10 [] F9 (dM F9 T.u214 F9 sW) ?_;refine pV 11 [] F9 (qA F9 F9 uI) ?_;refine dP [[12]] ?_;refine pV 13 [] F9 (sA F9 F9 sW) ?_;refine dP [[14],[15],[16]] ?_;refine pV 17 [] F9 (dC T.sl123 F9 F9 sW) ?_;refine pV 18 [0] F9 (mE 0 T.one215 F9 F9 sW) ?_;refine pV 19 [] F9 (dM F9 T.u214 F9 sW) ?_;refine pV 20 [] F9 (Iu F9 F9 sW sW) ?_;refine dP [[21],[22]] ?_;refine cT ?_;refine lK 8 [1] ?_;refine aQ (jZ F9 F9 sW) ?_;refine aL 9 [] ?_;refine fV (α:=A5) T.sl123 ?_;refine jG 0 T.one215 ?_;refine aQ (dM F9 T.u214 F9 sW) ?_;refine aQ (jH F9 F9 sW) ?_;refine aL 6 [] ?_;refine aQ (gO F9 F9 sW) ?_;refine aZ 3 [] ?_;refine dB (fun hc1=>?_) fun hc1=>?_;refine bG 4 [] ?_;rotate_left;refine bG 2 [] ?_;rotate_left
       · refine cE 7 F9 F9 ?_;refine mU (g - 1) ?_;exact brk hnx hnu (by rw [←ev1];omega) hg0
       refine cE 8 F9 (show _=Value.int .u64 (r+lg lv (m+1)) by rw [ev1]) ?_;refine cM ((g - 1,r+lg lv (m+1))) ?_ ?_
       · exact ⟨hnx,by omega,by omega,by omega,by rw [←ev1];omega,hnu⟩
       show (4294967296 - (r+lg lv (m+1))).toNat<(4294967296 - r).toNat;omega
     have hcond':¬r*4294967296+(u[(((lv.length:Nat):Int) - 2).toNat]?.getD default).v<g*(lv[(((lv.length:Nat):Int) - 2).toNat]?.getD default).v:=by rw [eu0,ev0];exact hcond
     refine bL 2 [] ?_;refine dK [0] [] T.mixed [[0]] ?_;refine eD 1 [] F9 (gO F9 F9 sW) ?_;refine dP [[2],[3]] ?_;refine Gm.no 45 F9 uI ?_;refine dP [[4],[5],[6],[7]] ?_;refine pV 8 [] F9 (iQ (α:=A5) T.sl123 F9 F9 sX sW) ?_;refine pV 9 [0] F9 (bV T.one215 F9 (gI sX sW 0 F9 F9)) ?_;refine pV 10 [] F9 (dM F9 T.u214 F9 sW) ?_;refine pV 11 [] F9 (qA F9 F9 uI) ?_;refine dP [[12]] ?_;refine pV 13 [] F9 (sA F9 F9 sW) ?_;refine dP [[14],[15],[16]] ?_;refine pV 17 [] F9 (dC T.sl123 F9 F9 sW) ?_;refine pV 18 [0] F9 (mE 0 T.one215 F9 F9 sW) ?_;refine pV 19 [] F9 (dM F9 T.u214 F9 sW) ?_;refine pV 20 [] F9 (Iu F9 F9 sW sW) ?_;refine dP [[21],[22]] ?_;refine cT ?_;refine dO 6 [0] ?_;refine mU (g) ?_;exact ⟨hg2,hgb,hgu,MW hu hl du dv hhigh hg1 ⟨hg2,hgb⟩ sW sW⟩
   obtain ⟨hg0,hnx,hnu⟩:=dec (.inl sW);refine bL 2 [] ?_;refine dK [0] [] T.mixed [[0]] ?_;refine eD 1 [] F9 (gO F9 F9 sW) ?_;refine dP [[2],[3]] ?_;refine qQ 45 F9 uI ?_;refine dP [[4],[5],[6],[7],[8],[9],[10],[11],[12],[13],[14],[15],[16],[17],[18],[19],[20],[21],[22]] ?_;refine cT ?_;refine lK 8 [1] ?_;refine aQ (jZ F9 F9 sW) ?_;refine aL 9 [] ?_;refine fV (α:=A5) T.sl123 ?_;refine jG 0 T.one215 ?_;refine aQ (dM F9 T.u214 F9 sW) ?_;refine aQ (jH F9 F9 sW) ?_;refine aL 6 [] ?_;refine aQ (gO F9 F9 sW) ?_;refine aZ 3 [] ?_;refine dB (fun hc1=>?_) fun hc1=>?_;refine bG 4 [] ?_;rotate_left;refine bG 2 [] ?_;rotate_left
   · refine cE 7 F9 F9 ?_;refine mU (g - 1) ?_;exact brk hnx hnu (by rw [←ev1];omega) hg0
   refine cE 8 F9 (show _=Value.int .u64 (r+lg lv (m+1)) by rw [ev1]) ?_;refine cM ((g - 1,r+lg lv (m+1))) ?_ ?_
   · exact ⟨hnx,by omega,by omega,by omega,by rw [←ev1];omega,hnu⟩
   show (4294967296 - (r+lg lv (m+1))).toNat<(4294967296 - r).toNat;omega
 clear hg1 hg2 hg3 hr1 hr2 hgu;obtain ⟨hg1,hg2,hg3,hg4⟩:=hk;refine aH 6 [] ?_;refine bS 0 F9 (gd _ b p u q junk cw v cv lv gg hv du dv h1 sW ⟨hg1,hg2⟩) fun r1 G1 Ho1 hle1 hp=>?_;obtain ⟨lw1,lo1,rfl,rfl,rfl,hlo1,hln1,hld1,hlv1⟩:=hp;have hfew:=wS hld1;have hnn:=uK hld1;rcases hlo1 with hlo1 | hlo1
 · subst hlo1;rw [bR,lB] at hlv1;refine aQ (fS F9) ?_;refine aL 6 [1] ?_;refine aQ (kQ F9 T.u215 F9 sW) ?_;refine aS 5 [] ?_;refine jJ ?_;refine nT [0] ?_;refine ⟨lw1,gg,F9,F9,F9,hg1,hg2,hln1,hld1,hlv1.symm,?_⟩;rw [mH,dW] at hg3;omega
 subst hlo1;rw [gZ,←hln1] at hlv1;have hover:tA u<gg*tA lv:=sW;have hgp:1≤gg:=by
  rcases (show gg=0∨1≤gg by omega) with h | h
  · rw [h,eV] at hover;have:=uK du;omega
  exact h
 refine aQ (fS F9) ?_;refine aL 8 [0] ?_;refine aQ (jZ F9 F9 sW) ?_;refine aZ 17 [] ?_;refine iA (ι:=Nat×Int×List A5) (fun (i,c,z)=>([(89,.int .i64 (i:Int)),(9,.int .u64 c),(88,.int .i64 (u.length:Int)),(7,.int .u64 (gg - 1)),(0,.slice (some (Addr.mk b (List.length p) none)) (List.length u) cw),(1,.slice v (List.length lv) cv),(5,.int .i64 (lv.length:Int)),(4,.int .u32 0)],[(0,some b,Row 215 (p++(z++q)) junk)])) (fun (i,c,z)=>i≤lw1.length∧z.length=lw1.length∧A7 z∧0≤c∧c≤1∧z.drop i=lw1.drop i∧tA (lw1.take i)+tA (lv.take i)=tA (z.take i)+pb i*c) (fun (i,c,z)=>lw1.length - i) ((0,0,lw1)) (⟨aN _,F9,hld1,by decide,by decide,F9,by rw [bQ,bQ,uO,bR]⟩) fun ⟨i,c,z⟩=>fun hk=>?_;obtain ⟨hi,hzn,hzd,hc0,hc1,hdrop,hval⟩:=hk;rcases aK i lw1.length with hia | hia
 · have hx:0≤(z[(i:Int).toNat]?.getD default).v∧(z[(i:Int).toNat]?.getD default).v<4294967296:=By hzd sW;have ex:(z[(i:Int).toNat]?.getD default).v=lg lw1 i:=FA hdrop;rcases aK i lv.length with hib | hib
   · have hy:0≤(lv[(i:Int).toNat]?.getD default).v∧(lv[(i:Int).toNat]?.getD default).v<4294967296:=By dv hib;refine aH 22 [1] ?_;refine aQ (dC T.sl123 F9 F9 sW) ?_;refine aQ (mE 0 T.one215 F9 F9 sW) ?_;refine aQ (dM F9 T.u214 F9 sW) ?_;refine aQ (jH F9 F9 sW) ?_;refine aL 16 [1] ?_;refine fV (α:=A5) T.sl123 ?_;refine jG 0 T.one215 ?_;refine aQ (dM F9 T.u214 F9 sW) ?_;refine aQ (jH F9 F9 sW) ?_;refine aL 8 [] ?_;refine aQ (iV F9 T.u215 F9) ?_;refine aQ (dC T.sl123 F9 F9 sW) ?_;refine qI 0 T.size215 F9 F9 F9 sW ?_;refine aL 4 [] ?_;refine aQ (gO F9 F9 sW) ?_;refine aS 8 [] ?_;refine gJ 0 (Row 215 (p++(z.set i (⟨(c+(z[(i:Int).toNat]?.getD default).v+(lv[(i:Int).toNat]?.getD default).v) % 4294967296⟩:A5)++q)) junk) F9 Xv ?_;refine cM ((i+1,(c+(z[(i:Int).toNat]?.getD default).v+(lv[(i:Int).toNat]?.getD default).v) / 4294967296,z.set i (⟨(c+(z[(i:Int).toNat]?.getD default).v+(lv[(i:Int).toNat]?.getD default).v) % 4294967296⟩:A5))) ?_ ?_
     · exact ⟨by omega,by rw [aG];exact hzn,uM hzd _ (Gr _),by omega,by omega,xG hdrop _,Iw sW hval (by rw [ex];rfl)⟩
     show lw1.length - (i+1)<lw1.length - i;omega
   have hz0:=En hib;refine aH 22 [1] ?_;refine aQ (dC T.sl123 F9 F9 sW) ?_;refine aQ (mE 0 T.one215 F9 F9 sW) ?_;refine aQ (dM F9 T.u214 F9 sW) ?_;refine aQ (jH F9 F9 sW) ?_;refine aL 19 [0] ?_;refine aQ (iV F9 T.u215 F9) ?_;refine aQ (dC T.sl123 F9 F9 sW) ?_;refine qI 0 T.size215 F9 F9 F9 sW ?_;refine aL 4 [] ?_;refine aQ (gO F9 F9 sW) ?_;refine aS 8 [] ?_;refine gJ 0 (Row 215 (p++(z.set i (⟨(c+(z[(i:Int).toNat]?.getD default).v) % 4294967296⟩:A5)++q)) junk) F9 Xv ?_;refine cM ((i+1,(c+(z[(i:Int).toNat]?.getD default).v) / 4294967296,z.set i (⟨(c+(z[(i:Int).toNat]?.getD default).v) % 4294967296⟩:A5))) ?_ ?_
   · exact ⟨by omega,by rw [aG];exact hzn,uM hzd _ (Gr _),by omega,by omega,xG hdrop _,Iw sW hval (by rw [ex,hz0,fN])⟩
   show lw1.length - (i+1)<lw1.length - i;omega
 have hii:i=lw1.length:=sW;subst hii;have hvl:=wS dv;have hpl:=Sz (show lv.length≤lw1.length by omega);have hback:=MX (g:=gg) (u:=u) (n:=lw1.length) sW hg4 hover F9 hzn sW sW hzd ⟨hc0,hc1⟩ hval;refine aH 15 [0] ?_;refine aQ (kQ F9 T.u215 F9 sW) ?_;refine aS 4 [] ?_;refine jJ ?_;refine nT [0] ?_;refine ⟨z,gg - 1,F9,F9,F9,by omega,by omega,by omega,hzd,hback,?_⟩;rw [kU,dW] at hback;omega
end
theorem zH {s:Nat} (hs:s≤32):∃ Q:Int,((2 ^ s:Nat):Int)*Q=4294967296∧0<Q∧0<((2 ^ s:Nat):Int):=by
 refine ⟨((2 ^ (32 - s):Nat):Int),?_,?_,?_⟩
 · rw [←kC,←oH,Nat.add_sub_cancel' hs];decide
 · have:0<2 ^ (32 - s):=pM tG;omega
 have:0<2 ^ s:=pM tG;omega
theorem IK {X:Int} {s:Nat} (hs:s≤32) (hX:0≤X∧X<4294967296):(X*((2 ^ s:Nat):Int)) % 4294967296 % ((2 ^ s:Nat):Int)=0∧0≤X*((2 ^ s:Nat):Int) / 4294967296∧X*((2 ^ s:Nat):Int) / 4294967296<((2 ^ s:Nat):Int)∧0≤X*((2 ^ s:Nat):Int)∧X*((2 ^ s:Nat):Int)<18446744073709551616:=by
 obtain ⟨Q,h1,h2,h3⟩:=zH hs;generalize ((2 ^ s:Nat):Int)=P at *;have hn:=kS hX.1 (dX h3);have hlt:=Int.mul_lt_mul_of_pos_right hX.2 h3;have hP:P≤4294967296:=by
  have:=bU (show 1≤Q by omega) (dX h3);omega
 refine ⟨?_,oN hn tG,nU tG (by rw [cJ P];exact hlt),hn,by omega⟩;rw [Int.emod_emod_of_dvd _ ⟨Q,h1.symm⟩];exact Int.mul_emod_left X P
theorem ND {la r:List A5} {i d:Nat} {P hi lo:Int} (hk:i+d+1<r.length) (hz:lg r (i+d+1)=0) (hv:tA r=pb d*P*tA (la.take i)) (hlo:lo=lg r (i+d)+lg la i*P % 4294967296) (hhi:hi=lg la i*P / 4294967296) :
 tA ((r.set (i+d) ⟨lo⟩).set (i+d+1) ⟨hi⟩)=pb d*P*tA (la.take (i+1)):=by
 rw [Cr _ _ _ (by rw [aG];exact hk),Cr r _ _ sW,zG sW,hz,uQ,hv,hlo,hhi,yB,CZ];have h1:=Vr (pb i*pb d) (lg la i*P);show pb d*P*tA (la.take i)+pb i*pb d*(lg r (i+d)+lg la i*P % 4294967296 - lg r (i+d))+4294967296*(pb i*pb d)*(lg la i*P / 4294967296 - 0)=_;have e1:lg r (i+d)+lg la i*P % 4294967296 - lg r (i+d)=lg la i*P % 4294967296:=sW;have e2:pb d*P*(pb i*lg la i)=pb i*pb d*(lg la i*P):=by
  rw [cJ (pb i) (pb d),cO,cO,cJ (lg la i) P,gH P]
 rw [e1,lB,cZ,e2,←h1];omega
theorem Yy {A0 A1:Int} {s:Nat} (hs:s≤32) (h0:0≤A0∧A0<4294967296) (h1:0≤A1∧A1<4294967296):((2 ^ s:Nat):Int)*(((A1*4294967296+A0) / ((2 ^ s:Nat):Int)) % 4294967296)=4294967296*(A1 % ((2 ^ s:Nat):Int))+A0 - A0 % ((2 ^ s:Nat):Int):=by
 obtain ⟨Q,hQ,hQ0,hP⟩:=zH hs;generalize ((2 ^ s:Nat):Int)=P at *;have e0:=jX A0 P;have e1:=jX A1 P;have n0:=lI A0 (oX hP);have l0:=gL A0 hP;have n1:=lI A1 (oX hP);have l1:=gL A1 hP;have q0:=oN h0.1 (dX hP);have q0':A0 / P<Q:=nU hP (by rw [cJ];omega);generalize A0 % P=r0 at *;generalize A1 % P=r1 at *;generalize A0 / P=y0 at *;generalize A1 / P=y1 at *;have e2:A1*4294967296+A0=r0+P*(A1*Q+y0):=by
  rw [cZ,gH P,hQ];omega
 have e3:(A1*4294967296+A0) / P=A1*Q+y0:=by
  rw [e2,Int.add_mul_ediv_left _ _ (oX hP),qP n0 l0,lA]
 have e4:A1*Q+y0=r1*Q+y0+4294967296*y1:=by
  rw [←e1,mH,←hQ,Int.mul_right_comm P Q y1,cO P y1 Q];omega
 have f1:=kS n1 (dX hQ0);have f2:=iI (show r1+1≤P by omega) (dX hQ0);rw [mH,dW,hQ] at f2;have e5:(A1*Q+y0) % 4294967296=r1*Q+y0:=by
  rw [e4,Int.add_mul_emod_self_left,sK sW sW]
 rw [e3,e5,cZ,gH P r1 Q,hQ];omega
theorem Yz {m r:List A5} {i:Nat} {P out ρ:Int} (hi:i<r.length) (hv:P*tA (r.take i)+ρ=tA (m.take i)+pb i*(lg m i % P)) (ho:P*out=4294967296*(lg m (i+1) % P)+lg m i - lg m i % P) :
 P*tA ((r.set i ⟨out⟩).take (i+1))+ρ=tA (m.take (i+1))+pb (i+1)*(lg m (i+1) % P):=by
 rw [uQ (r.set i _),uQ m,Hg hi,mV (aI i),yB,cZ,gH P,ho,kV,cZ,gH (pb i) 4294967296,cO];omega
theorem TD {m r:List A5} {P:Int} (hP:0<P) (hn:r.length=m.length) (hv:P*tA (r.take m.length)+lg m 0 % P=tA (m.take m.length)+pb m.length*(lg m m.length % P)):tA r=tA m / P:=by
 rw [uJ sW,uJ (aI _),En (aI _),Int.zero_emod,bR,fN] at hv;rw [←hv,sL,Int.add_mul_ediv_left _ _ (oX hP),qP (lI _ (oX hP)) (gL _ hP),lA]
theorem NE {x y:Int} {s:Nat} (hs:s≤32) (hx:x<((2 ^ s:Nat):Int)) (h0:0≤x) (hy:0≤y∧y<4294967296) (hm:y % ((2 ^ s:Nat):Int)=0):0≤x+y∧x+y<4294967296:=by
 obtain ⟨Q,hQ,hQ0,hP⟩:=zH hs;generalize ((2 ^ s:Nat):Int)=P at *;refine ⟨by omega,?_⟩;have h1:=jX y P;rw [hm,lA] at h1;have h2:y / P<Q:=nU hP (by rw [cJ];omega);have h3:=bU (show y / P+1≤Q by omega) (dX hP);rw [cZ,gZ,hQ,h1] at h3;omega
section
attribute [local irreducible] tA pb uY
theorem ai (G:A3) (a:Option Addr) (ca:Nat) (la:List A5) (d s:Nat) (ha:Arr G a la) (da:A7 la) (h1:la.length≤1073741824) (hs:s<32) (hd:d≤1000) :
 Does Tryz.prog 250 [.slice a la.length ca,.int .i64 ((32*d+s:Nat):Int)] G [] (fun v G' Ho=>∃ r,v=.tuple #[r,.int .i64 0]∧D2 G' r (pb d*((2 ^ s:Nat):Int)*tA la) (la.length+d+1)∧Ho=[]):=by
 refine D0 Tryz.func250 Tryz.ntmps250 fun w=>?_;have ed:((32*d+s:Nat):Int) / 32=(d:Int):=sW;have es:((32*d+s:Nat):Int) % 32=(s:Int):=sW;have hP:0<((2 ^ s:Nat):Int):=(zH sW).choose_spec.2.2;refine aH 31 [0,0] ?_;refine aQ (rO F9 F9 sW) ?_;refine aC 2 [] ?_;refine gN (α:=A5) 0 F9 T.sl123 T.el215 F9 F9 sW sW fun b1=>?_;refine aL 6 [] ?_;refine aQ (nI F9 F9 sW) ?_;refine aZ 12 [] ?_;obtain ⟨N,hN⟩:∃ N,N=la.length+d+1:=⟨_,F9⟩
 have hM:((la.length:Int)+((32*d+s:Nat):Int) / 32+1).toNat=N:=sW;rw [hM];have hown:∀ r:List A5,r.length=N→A4 (some ⟨b1,0,none⟩) N r []:=fun r hr=>.inr ⟨b1,F9,by rw [hr];rfl,by omega,by simp only [maxLen];omega⟩;refine iP 6 F9 (show _=Value.slice (some ⟨b1,0,none⟩) (List.replicate N (default:A5)).length N by rw [aJ]) ?_;refine iP 7 F9 (show _=Value.int .i64 (s:Int) by rw [es]) ?_;refine iA (ι:=Nat×List A5) (fun (i,r)=>([(26,.int .i64 (i:Int)),(6,.slice (some ⟨b1,0,none⟩) r.length N),(7,.int .i64 (↑s:Int)),(25,.int .i64 (la.length:Int)),(24,.slice a (List.length la) ca),(5,.int .i64 0),(4,.slice none 0 0),(1,.int .i64 (↑(32*d+s):Int))],[(0,some b1,Row 215 r [])])) (fun (i,r)=>i≤la.length∧r.length=N∧A7 r∧tA r=pb d*((2 ^ s:Nat):Int)*tA (la.take i)∧lg r (i+d)<((2 ^ s:Nat):Int)∧∀ k,i+d<k→lg r k=0) (fun (i,r)=>la.length - i) ((0,List.replicate N (default:A5))) (⟨aN _,aJ,nY N,by rw [bQ,uO,bR];exact Bf N,by rw [Iz];exact hP,fun k _=>Iz N k⟩) fun ⟨i,r⟩=>fun hk=>?_;obtain ⟨hi,hrN,hdr,hv,hlow,hz⟩:=hk;have hor:=hown r hrN;rcases aK i la.length with hia | hia
 · have hx:0≤(la[(i:Int).toNat]?.getD default).v∧(la[(i:Int).toNat]?.getD default).v<4294967296:=By da hia;have ekk:((i:Int)+((32*d+s:Nat):Int) / 32).toNat=i+d:=sW;have hpt:=IK (s:=s) sW hx;refine aH 14 [1] ?_;refine fV (α:=A5) T.sl123 ?_;refine jG 0 T.one215 ?_;refine aL 7 [] ?_;refine aQ (dM F9 T.u214 F9 sW) ?_;refine aC 1 [] ?_;refine aQ (SU F9 F9 sW sW) ?_;refine aL 8 [] ?_;refine aQ (rO F9 F9 sW) ?_;refine aC 1 [] ?_;refine iK (α:=A5) T.sl123 ?_;refine nG 0 0 T.one215 ?_;refine aC 1 [] ?_;refine aQ (iV F9 T.u215 F9) ?_;refine aQ (sO F9 F9) ?_;refine iK (α:=A5) T.sl123 ?_;refine dJ (z:=_) 0 T.size215 F9 F9 F9 sX sW F9 fun ho1=>?_;refine aL 6 [] ?_;refine aQ (rO F9 F9 sW) ?_;refine aC 2 [] ?_;refine iK (α:=A5) T.sl123 ?_;obtain ⟨r1,hr1⟩:∃ r1,r1=r.set (i+d) (⟨lg r (i+d)+(la[(i:Int).toNat]?.getD default).v*((2 ^ s:Nat):Int) % 4294967296⟩:A5):=⟨_,F9⟩
   have hk0:=wA hdr (i+d);have hlo:bits BinOp.or IntKind.u32 (r[((i:Int)+((32*d+s:Nat):Int) / 32).toNat]?.getD default).v ((la[(i:Int).toNat]?.getD default).v*((2 ^ s:Nat):Int) % 4294967296)=lg r (i+d)+(la[(i:Int).toNat]?.getD default).v*((2 ^ s:Nat):Int) % 4294967296:=by
    rw [ekk];exact Mp _ _ s ⟨hk0.1,hlow⟩ (Gr _) sW hpt.1
   have hr1N:r1.length=N:=by rw [hr1,aG];exact hrN
   have hsum:=NE (s:=s) sW hlow hk0.1 (Gr _) hpt.1;have hd1:A7 r1:=by rw [hr1];exact uM hdr _ hsum
   have hz1:lg r1 (i+d+1)=0:=by rw [hr1,zG sW];exact hz _ sW
   have hor1:=hown r1 hr1N;refine oY 0 (Row 215 r1 []) F9 ?_ ?_
   · show Row 215 (r.set ((i:Int)+((32*d+s:Nat):Int) / 32).toNat ⟨bits BinOp.or IntKind.u32 (r[((i:Int)+((32*d+s:Nat):Int) / 32).toNat]?.getD default).v ((la[(i:Int).toNat]?.getD default).v*((2 ^ s:Nat):Int) % 4294967296)⟩) []=_;rw [hlo,ekk,hr1]
   skip;refine aQ (fG (m:=(i:Int)+((32*d+s:Nat):Int) / 32+1) (c:=N) (xs:=r1) (junk:=[]) 0 0 T.one215 F9 F9 hor1 sW F9 F9) ?_;refine aC 1 [] ?_;refine aQ (gO F9 F9 sW) ?_;refine aQ (kQ F9 T.u215 F9 sW) ?_;refine aQ (sO F9 F9) ?_;refine iK (α:=A5) T.sl123 ?_;refine dJ (z:=_) 0 T.size215 F9 F9 F9 sX sW F9 fun ho2=>?_;refine aS 7 [] ?_;have hhi:bits BinOp.or IntKind.u32 (r1[((i:Int)+((32*d+s:Nat):Int) / 32+1).toNat]?.getD default).v ((la[(i:Int).toNat]?.getD default).v*((2 ^ s:Nat):Int) / 4294967296)=(la[(i:Int).toNat]?.getD default).v*((2 ^ s:Nat):Int) / 4294967296:=by
    rw [show ((i:Int)+((32*d+s:Nat):Int) / 32+1).toNat=i+d+1 by omega,show (r1[i+d+1]?.getD default).v=0 by simpa only [lg,aF] using hz1,Mp 0 _ 0 tG sW tG (Int.emod_one _),lA]
   obtain ⟨r2,hr2⟩:∃ r2,r2=r1.set (i+d+1) (⟨(la[(i:Int).toNat]?.getD default).v*((2 ^ s:Nat):Int) / 4294967296⟩:A5):=⟨_,F9⟩
   refine gJ 0 (Row 215 r2 []) F9 ?_ ?_
   · show Row 215 (r1.set ((i:Int)+((32*d+s:Nat):Int) / 32+1).toNat ⟨bits BinOp.or IntKind.u32 (r1[((i:Int)+((32*d+s:Nat):Int) / 32+1).toNat]?.getD default).v ((la[(i:Int).toNat]?.getD default).v*((2 ^ s:Nat):Int) / 4294967296)⟩) []=_;rw [hhi,show ((i:Int)+((32*d+s:Nat):Int) / 32+1).toNat=i+d+1 by omega,hr2]
   have hr2N:r2.length=N:=by rw [hr2,aG];exact hr1N
   refine cE 6 F9 (show _=Value.slice (some ⟨b1,0,none⟩) r2.length N by rw [hr2N,hrN]) ?_;have hlt32:=(zH (s:=s) sW)
   refine cM ((i+1,r2)) ?_ ?_
   · refine ⟨by omega,hr2N,by rw [hr2];exact uM hd1 _ ⟨hpt.2.1,by omega⟩,?_,?_,?_⟩
     · rw [hr2,hr1];exact ND sW (hz _ sW) hv F9 F9
     · rw [show i+1+d=i+d+1 by omega,hr2,Hg sW];exact hpt.2.2.1
     intro k hk;rw [hr2,zG sW,hr1,zG sW];exact hz k sW
   show la.length - (i+1)<la.length - i;omega
 rw [uJ hia] at hv;refine aH 15 [0] ?_;refine fK 0 F9 hor fun G9 hle9 hA=>?_;refine bS 1 F9 (Nh _ _ _ _ sX sW uI) fun v1 G1 Ho1 hle1 hp=>?_;obtain ⟨ta1,tm1,rfl,hta1,hte1,htr1,htl1,rfl,rfl⟩:=hp;refine aS 5 [] ?_;refine iB ?_;exact ⟨_,F9,oG hta1 hte1 htr1 hdr hv sW,F9⟩
theorem gh (G:A3) (a:Option Addr) (ca:Nat) (la:List A5) (s:Nat) (ha:Arr G a la) (da:A7 la) (h1:la.length≤1073741824) (hca:la.length≤ca) (hs:s<32) :
 Does Tryz.prog 252 [.slice a la.length ca,.int .i64 (s:Int)] G [] (fun v G' Ho=>∃ r,v=.tuple #[r,.int .i64 0]∧D2 G' r (tA la / ((2 ^ s:Nat):Int)) la.length∧Ho=[]):=by
 refine D0 Tryz.func252 Tryz.ntmps252 fun w=>?_;have ed:(s:Int) / 32=0:=sW;have es:(s:Int) % 32=(s:Int):=sW;have hP:0<((2 ^ s:Nat):Int):=(zH sW).choose_spec.2.2;refine aH 19 [0] ?_;refine bS 0 F9 (Nh _ _ _ _ sX sW uI) fun v1 G1 Ho1 hle1 hp=>?_;obtain ⟨ta1,tm1,rfl,hta1,hte1,htr1,htl1,rfl,rfl⟩:=hp;refine aL 7 [] ?_;refine aQ (rO F9 F9 sW) ?_;refine aZ 5 [] ?_;refine dB (fun hc1=>?_) fun hc1=>?_;refine bG 8 [] ?_;refine iB ?_;rotate_left;refine aH 6 [] ?_;refine aQ (rO F9 F9 sW) ?_;refine aQ (ET T.sl123 F9 F9 sW sW) ?_;refine aL 6 [] ?_;refine aQ (nI F9 F9 sW) ?_;refine aL 7 [] ?_;refine gN (α:=A5) 0 F9 T.sl123 T.el215 F9 F9 sW sW fun b1=>?_;refine aZ 12 [] ?_;rotate_left
 · have hz:tm1=[]:=dV sW;have hv0:tA la=0:=by rw [←xF hte1 htr1,hz,uO]
   refine ⟨_,F9,⟨none,[],F9,kG _,A7.nil,E9.nil,?_,aN _⟩,F9⟩;rw [hv0,Int.zero_ediv,uO]
 have dm:=xB hte1 da;have hta2:Arr G1 (C6 ta1 tm1.length 0 1) tm1:=by
  have h2:=Iv (c:=tm1.length) (sz:=1) hta1 tm1.length;rw [uJ (aI _)] at h2;exact h2
 obtain ⟨tb,htb⟩:∃ tb,tb=C6 ta1 tm1.length 0 1:=⟨_,F9⟩
 rw [←htb] at hta2;obtain ⟨N,hN⟩:∃ N,N=tm1.length:=⟨_,F9⟩
 have hM:(((tm1.length - ((s:Int) / 32).toNat:Nat):Int)).toNat=N:=sW;rw [hM];have hown:∀ r:List A5,r.length=N→A4 (some ⟨b1,0,none⟩) N r []:=fun r hr=>.inr ⟨b1,F9,by rw [hr];rfl,by omega,by simp only [maxLen];omega⟩;refine iP 7 F9 (show _=Value.slice (some ⟨b1,0,none⟩) (List.replicate N (default:A5)).length N by rw [aJ]) ?_;refine iP 6 F9 (show _=Value.int .i64 (s:Int) by rw [es]) ?_;refine iP 0 F9 (show _=Value.slice tb tm1.length tm1.length by rw [ed,htb];rfl) ?_;refine iP 29 F9 (show _=Value.slice tb tm1.length tm1.length by rw [ed,htb];rfl) ?_;refine iP 30 F9 (show _=Value.int .i64 (tm1.length:Int) by rw [ed];rfl) ?_;refine iA (ι:=Nat×List A5) (fun (i,r)=>([(31,.int .i64 (i:Int)),(7,.slice (some ⟨b1,0,none⟩) r.length N),(30,.int .i64 (tm1.length:Int)),(29,.slice tb (List.length tm1) (List.length tm1)),(0,.slice tb (List.length tm1) (List.length tm1)),(6,.int .i64 (↑s:Int)),(5,.int .i64 0),(4,.slice none 0 0)],[(0,some b1,Row 215 r [])])) (fun (i,r)=>i≤tm1.length∧r.length=N∧A7 r∧((2 ^ s:Nat):Int)*tA (r.take i)+lg tm1 0 % ((2 ^ s:Nat):Int)=tA (tm1.take i)+pb i*(lg tm1 i % ((2 ^ s:Nat):Int))) (fun (i,r)=>tm1.length - i) ((0,List.replicate N (default:A5))) (⟨aN _,aJ,nY N,by rw [bQ,bQ,uO,bR,No,dW]⟩) fun ⟨i,r⟩=>fun hk=>?_;obtain ⟨hi,hrN,hdr,hv⟩:=hk;have hor:=hown r hrN;rcases aK i tm1.length with hia | hia
 · have hx:0≤(tm1[(i:Int).toNat]?.getD default).v∧(tm1[(i:Int).toNat]?.getD default).v<4294967296:=By dm hia;have ex:(tm1[(i:Int).toNat]?.getD default).v=lg tm1 i:=rfl;have ex1:(tm1[((i:Int)+1).toNat]?.getD default).v=lg tm1 (i+1):=by unfold lg;rw [show ((i:Int)+1).toNat=((i+1:Nat):Int).toNat by omega]
   have hy:0≤(tm1[((i:Int)+1).toNat]?.getD default).v∧(tm1[((i:Int)+1).toNat]?.getD default).v<4294967296:=by rw [ex1];exact wA dm _
   by_cases hib:i+1<tm1.length
   · refine aH 14 [1] ?_;refine fV (α:=A5) T.sl123 ?_;refine jG 0 T.one215 ?_;refine aL 7 [] ?_;refine aQ (dM F9 T.u214 F9 sW) ?_;refine aL 19 [1] ?_;refine fV (α:=A5) T.sl123 ?_;refine bX F9 (bV T.one215 F9 (gI sX sW 0 F9 F9)) ?_;refine aQ (dM F9 T.u214 F9 sW) ?_;refine aQ (sA F9 F9 sW) ?_;refine aQ (IH F9 F9 sW sW) ?_;refine aL 8 [] ?_;refine aQ (EY F9 F9 sW sW) ?_;refine aQ (iV F9 T.u215 F9) ?_;refine bX F9 (dS (α:=A5) T.sl123 F9 F9 sX sW) ?_;refine dJ (z:=_) 0 T.size215 F9 F9 F9 sX sW F9 fun ho1=>?_;refine aS 7 [] ?_;obtain ⟨out,hout⟩:∃ out,out=((tm1[((i:Int)+1).toNat]?.getD default).v*4294967296+(tm1[(i:Int).toNat]?.getD default).v) / ((2 ^ s:Nat):Int) % 4294967296:=⟨_,F9⟩
     have hpart:((2 ^ s:Nat):Int)*out=4294967296*(lg tm1 (i+1) % ((2 ^ s:Nat):Int))+lg tm1 i - lg tm1 i % ((2 ^ s:Nat):Int):=by
      rw [hout,ex,ex1];exact Yy sW (wA dm i) (wA dm (i+1))
     refine gJ 0 (Row 215 (r.set i (⟨out⟩:A5)) []) F9 (by rw [hout,aF]) ?_;refine cE 7 F9 (show _=Value.slice (some ⟨b1,0,none⟩) (r.set i (⟨out⟩:A5)).length N by rw [aG]) ?_;refine cM ((i+1,r.set i (⟨out⟩:A5))) ?_ ?_
     · exact ⟨by omega,by rw [aG];exact hrN,uM hdr _ (by rw [hout];exact Gr _),Yz sW hv hpart⟩
     show tm1.length - (i+1)<tm1.length - i;omega
   have hz0:=En (show tm1.length≤i+1 by omega);refine aH 14 [1] ?_;refine fV (α:=A5) T.sl123 ?_;refine jG 0 T.one215 ?_;refine aL 7 [] ?_;refine aQ (dM F9 T.u214 F9 sW) ?_;refine aL 21 [0] ?_;refine aQ (EY F9 F9 sW sW) ?_;refine aQ (iV F9 T.u215 F9) ?_;refine iK (α:=A5) T.sl123 ?_;refine dJ (z:=_) 0 T.size215 F9 F9 F9 sX sW F9 fun ho1=>?_;refine aS 7 [] ?_;obtain ⟨out,hout⟩:∃ out,out=(tm1[(i:Int).toNat]?.getD default).v / ((2 ^ s:Nat):Int) % 4294967296:=⟨_,F9⟩
   have hpart:((2 ^ s:Nat):Int)*out=4294967296*(lg tm1 (i+1) % ((2 ^ s:Nat):Int))+lg tm1 i - lg tm1 i % ((2 ^ s:Nat):Int):=by
    rw [hout,show (tm1[(i:Int).toNat]?.getD default).v=lg tm1 (i+1)*4294967296+lg tm1 i by rw [hz0,eV,lA];rfl];exact Yy sW (wA dm i) (wA dm (i+1))
   refine gJ 0 (Row 215 (r.set i (⟨out⟩:A5)) []) F9 (by rw [hout,aF]) ?_;refine cE 7 F9 (show _=Value.slice (some ⟨b1,0,none⟩) (r.set i (⟨out⟩:A5)).length N by rw [aG]) ?_;refine cM ((i+1,r.set i (⟨out⟩:A5))) ?_ ?_
   · exact ⟨by omega,by rw [aG];exact hrN,uM hdr _ (by rw [hout];exact Gr _),Yz sW hv hpart⟩
   show tm1.length - (i+1)<tm1.length - i;omega
 have hii:i=tm1.length:=sW;subst hii;have hval:=TD hP sW hv;refine aH 15 [0] ?_;refine fK 0 F9 hor fun G9 hle9 hA=>?_;refine bS 1 F9 (Nh _ _ _ _ sX sW uI) fun v2 G2 Ho2 hle2 hp=>?_;obtain ⟨ta2,tm2,rfl,hta2,hte2,htr2,htl2,rfl,rfl⟩:=hp;refine aS 5 [] ?_;refine iB ?_;rw [xF hte1 htr1] at hval;exact ⟨_,F9,oG hta2 hte2 htr2 hdr hval sW,F9⟩
end
end Go.Proofs.YtkdelpdbjfpgmaaGreatDoor
namespace Go.Sl
open Go
section
variable {P:Program} {ops:Array Oper} {rest:List Oper} {B:Bs} {e:A9} {D:List Deferred} {H:Hp} {G:A3} {K:Act→World→Prop}
 {ty:TypeId} {pos:String} {after:Array Edge} {d:Nat} {α:Type} [A2 α]
theorem Sc {w:World} (hw:B3 H G w) {T E bytes:Nat} {zs:List Value} (hT:tN P T E (A2.sz α)) (hE:B6 P E (A2.sz α) bytes zs) {a ad:Option Addr} {c2:Nat} {xs ys:List α}
 (hA:F6 H G a xs) (hx0:0<xs.length) (hsrc:F6 H G ad ys) (hy0:0<ys.length) (hb:(xs.length+ys.length)*bytes≤140737488355328) (hl:xs.length+ys.length≤maxLen) :
 ∃ c' junk' w',(Builtin.append_ #[T,T] ty #[.slice a xs.length xs.length,.slice ad ys.length c2]).run P w=.ok (.slice (some ⟨w.heap.size,0,none⟩) (xs++ys).length c') w'∧A4 (some ⟨w.heap.size,0,none⟩) c' (xs++ys) junk'∧
  E2 (fun _=>False) w w'∧w'.heap.size=w.heap.size+1∧w'.heap[w.heap.size]?=some (Row E (xs++ys) junk'):=by
 obtain ⟨i,z,hi,hz1,hz2,hs,hby,hzl,hsz⟩:=hE;have hm63:xs.length+ys.length≤9223372036854775807:=by simp only [maxLen] at hl;omega
 have hlen:(xs++ys).length=xs.length+ys.length:=aB;have hyl:(tV ys).length=ys.length*i.size:=by rw [tP,hs]
 have hxl:(tV xs).length=xs.length*i.size:=by rw [tP,hs]
 have junkLen:∀ k,(Builtin.zeroCells z.cells k).toList.length=k*A2.sz α:=fun k=>by
  rw [oU,size_zeroCells,hz2];simp [hzl]
 have fresh:∀ old,old<xs.length+ys.length→∃ junk',A4 (some ⟨w.heap.size,0,none⟩) (grownCap w (xs.length+ys.length) old E) (xs++ys) junk'∧
  (w.drew.alloc (.cells ((tV xs).toArray++(tV ys).toArray++Builtin.zeroCells z.cells (grownCap w (xs.length+ys.length) old E - (xs.length+ys.length))) E)).heap[w.heap.size]?=some (Row E (xs++ys) junk'):=fun old hold=>by
  have hge:=grownCap_ge w (xs.length+ys.length) old E;have hcm:grownCap w (xs.length+ys.length) old E≤maxLen:=grownCap_le_maxLen w _ old E hl;refine ⟨(Builtin.zeroCells z.cells (grownCap w (xs.length+ys.length) old E - (xs.length+ys.length))).toList,.inr ⟨_,F9,?_,by rw [hlen];exact hge,hcm⟩,?_⟩
  · rw [junkLen,hlen,←iY];congr 1;omega
  rw [show w.heap.size=w.drew.heap.size from rfl,Kl];congr 1;simp [Row,wM]
 have hupd:∀ o,E2 (fun _=>False) w (w.drew.alloc o):=fun o=>(mX _ w).drew.alloc o;rcases hA w hw with ⟨_,h0⟩ | ⟨ax,rfl,hcell⟩
 · rw [h0] at hx0;simp at hx0
 rcases hsrc w hw with ⟨_,h0⟩ | ⟨src,rfl,hsr⟩
 · rw [h0] at hy0;simp at hy0
 have hr:=run_append_grow (P:=P) w T ty E i z hT.1 hi hz1 ax xs.length xs.length (tV xs) hxl hcell src ys.length c2 (tV ys) hyl hsr sW sW (growslice_fits sW (by rw [hby];exact hb));obtain ⟨junk',h1,h2⟩:=fresh xs.length sW;exact ⟨_,junk',_,by rw [hlen];exact hr,h1,hupd _,by simp,h2⟩
theorem Ja {s x:Operand} {T E bytes:Nat} {zs:List Value} {a ad:Option Addr} {c2:Nat} {xs ys:List α} (t:Nat) (hn:Nat.ble (d+1) B.n=true) (hT:tN P T E (A2.sz α)) (hE:B6 P E (A2.sz α) bytes zs)
 (hs:e.ev s=some (.slice a xs.length xs.length)) (hx:e.ev x=some (.slice ad ys.length c2)) (hA:F6 H G a xs) (hx0:0<xs.length) (hsrc:F6 H G ad ys) (hy0:0<ys.length)
 (hb:(xs.length+ys.length)*bytes≤140737488355328) (hl:xs.length+ys.length≤maxLen)
 (h:∀ b c' junk',A4 (some ⟨b,0,none⟩) c' (xs++ys) junk'→Wl P ops rest B ⟨(d,.slice (some ⟨b,0,none⟩) (xs++ys).length c') :: e,D,(t,some b,Row E (xs++ys) junk') :: H,G⟩ K) :
 Wl P ops (⟨some d,.call { callee:=.builtin .append,args:=#[s,x],argTypes:=#[T,T] },ty,pos,after,none⟩ :: rest) B ⟨e,D,H,G⟩ K:=by
 intro ac w hh;obtain ⟨c',junk',w',hrun,ho',hu,hsz,hbk⟩:=Sc (c2:=c2) (ty:=ty) hh.mem hT hE hA hx0 hsrc hy0 hb hl;unfold uD;rw [aE (by simp [Region.wanted])];unfold Dw;have hex:(execOp ac.eval ⟨some d,.call { callee:=.builtin .append,args:=#[s,x],argTypes:=#[T,T] },ty,pos,after,none⟩).run P w=.ok (.value (.slice (some ⟨w.heap.size,0,none⟩) (xs++ys).length c')) w':=by
  simp only [execOp,resolve,invoke,builtin,dG,dT,bM,sS,jE,mQ,hh.eval hs,hh.eval hx,hrun]
 rw [hex];exact h _ c' junk' ho' _ _ (A6.put (hh.ownNew t hu hsz hbk) hn _)
end
end Go.Sl
namespace Go.Proofs.YtkdelpdbjfpgmaaGreatDoor
open Go Go.Sl
theorem At {l:List A5} (h:A7 l) (k:Nat):A7 (l.drop k):=fun d hd=>h d (List.mem_of_mem_drop hd)
theorem Gs:∀ (f x:Nat),0<x→x<2 ^ f→1≤Lib.bitLenAux f x∧Lib.bitLenAux f x≤f∧2 ^ (Lib.bitLenAux f x - 1)≤x∧x<2 ^ Lib.bitLenAux f x
 | 0,x,h0,h1=>by simp at h1;omega
 | f+1,x,h0,h1=>by
   unfold Lib.bitLenAux;rw [aD (by omega)];by_cases h2:x / 2=0
   · have hx:x=1:=sW;subst hx;have:Lib.bitLenAux f (1 / 2)=0:=by cases f <;> simp [Lib.bitLenAux]
     rw [this];simp
   have ih:=Gs f (x / 2) sW (by rw [sD] at h1;omega);obtain ⟨a1,a2,a3,a4⟩:=ih;refine ⟨by omega,by omega,?_,?_⟩
   · rw [iS,←Nat.sub_add_cancel a1,sD];omega
   rw [Nat.add_comm 1,sD];omega
theorem IL {x:Int} (h0:0<x) (h1:x<4294967296):∃ s:Nat,s<32∧32 - (Lib.bitLen x.toNat:Int)=(s:Int)∧2147483648≤((2 ^ s:Nat):Int)*x∧((2 ^ s:Nat):Int)*(x+1)≤4294967296:=by
 have hb:=Gs 64 x.toNat sW (by have:(2:Nat) ^ 64=18446744073709551616:=tG;omega);have hle:=Lib.bitLen_le x.toNat 32 sW sW;unfold Lib.bitLen at hle ⊢;generalize Lib.bitLenAux 64 x.toNat=L at *;obtain ⟨b1,b2,b3,b4⟩:=hb;refine ⟨32 - L,by omega,by omega,?_,?_⟩
 · have e:2 ^ (32 - L)*2 ^ (L - 1)=2147483648:=by
    rw [←oH,show 32 - L+(L - 1)=31 by omega]
   have h2:=oQ (2 ^ (32 - L)) b3;rw [e] at h2;have h3:((2 ^ (32 - L):Nat):Int)*x=((2 ^ (32 - L)*x.toNat:Nat):Int):=by rw [kC,cW sW]
   rw [h3];omega
 have e:2 ^ (32 - L)*2 ^ L=4294967296:=by
  rw [←oH,show 32 - L+L=32 by omega]
 have h2:=oQ (2 ^ (32 - L)) (show x.toNat+1≤2 ^ L by omega);rw [e] at h2;have h3:((2 ^ (32 - L):Nat):Int)*(x+1)=((2 ^ (32 - L)*(x.toNat+1):Nat):Int):=by rw [kC,Int.natCast_add,cW sW];rfl
 rw [h3];omega
theorem NF {b v:List A5} {m:Nat} {P:Int} (hP:0<P) (hb:b.length=m+2) (db:A7 b) (dv:A7 v) (tv:E9 v) (hx:2147483648≤P*lg b (m+1)) (hx2:P*(lg b (m+1)+1)≤4294967296) (hv:tA v=P*tA b):v.length=m+2∧2147483648≤lg v (m+1):=by
 have e1:=uQ b (m+1);rw [uJ (show b.length≤m+1+1 by omega)] at e1;have h1:=wS (db.take (m+1));have h2:=uK (db.take (m+1));rw [bH,cY sW] at h1;have hp:=yS (m+1);have up:tA v<pb (m+2):=by
  have f1:=Int.mul_lt_mul_of_pos_left (show tA b<pb (m+1)*(lg b (m+1)+1) by rw [cZ,gZ];omega) hP;have f2:=bU hx2 (dX hp);rw [hv,show m+2=m+1+1 by omega,yB,cJ 4294967296];rw [gH P] at f1;omega
 have low:pb (m+1)*2147483648≤tA v:=by
  have f1:=bU (show pb (m+1)*lg b (m+1)≤tA b by omega) (dX hP);have f2:=bU hx (dX hp);rw [hv];rw [gH P] at f1;omega
 have l1:=Yq dv tv up;have l2:m+2≤v.length:=by
  rcases aK v.length (m+2) with h | h
  · have f1:=wS dv;have f2:=Sz (show v.length≤m+1 by omega);omega
  exact h
 have hl:v.length=m+2:=sW;refine ⟨hl,?_⟩;have e2:=uQ v (m+1);rw [uJ (show v.length≤m+1+1 by omega)] at e2;have h3:=wS (dv.take (m+1));rw [bH,cY sW] at h3;rcases qO (lg v (m+1)) 2147483648 with h | h
 · have f1:=bU (show lg v (m+1)+1≤2147483648 by omega) (dX hp);rw [cZ,gZ] at f1;omega
 exact h
theorem Za {x y:Int} (h:uY x y<0):x<y:=by
 unfold uY at h;split at h
 · assumption
 split at h <;> omega
theorem NG (R:List A5) (i n:Nat):R=R.take i++((R.drop i).take n++R.drop (i+n)):=by
 rw [←pA,fU,fU]
theorem IM {u v:List A5} (du:A7 u) (dv:A7 v) (tv:E9 v) (h0:0<v.length) (hl:v.length≤u.length):tA ((u++[(default:A5)]).drop (u.length+1 - v.length))<tA v:=by
 rw [oI sW,vG,El];have h1:=wS (At du (u.length+1 - v.length));rw [gP,show u.length - (u.length+1 - v.length)=v.length - 1 by omega] at h1;have h2:=Np dv tv (fun e=>by rw [e] at h0;simp at h0);show tA (u.drop (u.length+1 - v.length))+pb _*0<_;rw [bR];omega
theorem NH {R v:List A5} {i n:Nat} (dR:A7 R) (dv:A7 v) (hi:i<R.length) (hn:v.length=n) (hl:i+(n+1)≤R.length) (h:tA (R.drop (i+1))<tA v) :
 tA ((R.drop i).take (n+1))<4294967296*tA v∧tA (R.drop (i+(n+1)))=0:=by
 have e1:=xE hi;have e2:=Bg (R.drop i) (show n+1≤(R.drop i).length by rw [gP];omega);rw [pA] at e2;have h1:=wA dR i;have h2:=wS dv;rw [hn] at h2;have h3:=uK (At dR (i+(n+1)));have h4:=uK ((At dR i).take (n+1));have h5:=uK (At dR (i+1));have hp:=yS (n+1);have h6:tA (R.drop (i+(n+1)))=0:=by
  rcases (show tA (R.drop (i+(n+1)))=0∨1≤tA (R.drop (i+(n+1))) by omega) with hz | hz
  · exact hz
  have f1:=bU hz (dX hp);rw [gZ] at f1;have f2:=yB n;omega
 refine ⟨?_,h6⟩;rw [h6,bR] at e2;omega
theorem TE {a b q R P:Int} (hP:0<P) (h:P*a=q*(P*b)+R) (h0:0≤R) (h1:R<P*b):R / P=a % b∧q=a / b∧0<b:=by
 have e:R=P*(a - q*b):=by rw [kV,gH P q];omega
 have e1:R / P=a - q*b:=by rw [e,pU _ (oX hP)]
 have l0:0≤a - q*b:=by
  rw [e] at h0;exact Int.le_of_mul_le_mul_left (by rw [bR];exact h0) hP
 have l1:a - q*b<b:=by
  rw [e] at h1;exact Int.lt_of_mul_lt_mul_left h1 (dX hP)
 have hb:0<b:=sW;have:=(rI (a:=a) (b:=b) (r:=a - q*b) (q:=q) hb).2 ⟨by rw [cJ b q];omega,l0,l1⟩;exact ⟨e1.trans this.2.symm,this.1.symm,hb⟩
theorem Ep {G:A3} {v:Value} {z:Int} {n:Nat} {lb:List A5} (h:D2 G v z n) (db:A7 lb) (hz:z<tA lb):D2 G v z lb.length:=by
 obtain ⟨b,m,h1,h2,h3,h4,h5,h6⟩:=h;refine ⟨b,m,h1,h2,h3,h4,h5,?_⟩;rcases aK lb.length m.length with h7 | h7
 · have:=zT db h3 h4 h7;omega
 exact h7
theorem gi (G:A3) (x:Int) (h0:0≤x) (h1:x≤4294967295):Does Tryz.prog 249 [.int .u32 x] G [] (fun v G' Ho=>v=.int .i64 (32 - (Lib.bitLen x.toNat:Int))∧G'=G∧Ho=[]):=
 Pe fun w=>Tryz.bits_LeadingZeros32 x w h0 h1
end Go.Proofs.YtkdelpdbjfpgmaaGreatDoor
end
