/- uP of the proof (part 3): what the rows' text needs of the texts that lead to it. -/
import Derived.Test.YtkdelpdbjfpgmaaGreatDoorMHb
set_option linter.unusedVariables false
set_option linter.unusedSimpArgs false
set_option linter.unusedSectionVars false
set_option maxHeartbeats 4000000
noncomputable section
set_option maxRecDepth 100000
namespace Go.Sl
open Go Go.ChangeShapes Go.WideShapes Go.RowKit
def Gz (W:World):A3:=fun b=>W.heap[b]?
theorem ae (W:World):B3 [] (Gz W) W:=
 ⟨fun t b o h=>by simp [Hp.get] at h,fun t t' b o o' h=>by simp [Hp.get] at h,fun b o h=>h,fun t b o h=>by simp [Hp.get] at h⟩
theorem IH {W W':World} (h:E0 (Hp.has []) W W'):Go.RowKit.Below W.heap.size W W':=
 ⟨h.os,h.tape,h.output,h.size,fun k hk=>h.same k hk (fun ⟨t,o,hx⟩=>by simp [Hp.get] at hx)⟩
section
variable {H:Type} {enc:TypeId×Value→H} {P:Program}
theorem Ha (hl:laidOutB P=true) {W W':World} {sp':Nat→Bool}:∀ {ts:List TypeId} {vs:List Value} {ds:List (DataW H)} {ps:List MemPlace},(ts.all fun t=>P.readableRec t && decide (t<P.types.size))=true→
 DataW.TrodAll enc P W 0 (fun _=>true) true ts vs ds ps→(∀ p∈ps,W.sameAt W' p)→(∀ p∈ps,sp' p.block=true)→DataW.TrodAll enc P W' 0 sp' true ts vs ds ps
 | [],_,_,_,_,h,_,_=>by
   obtain ⟨rfl,rfl,rfl⟩:=trodAll_nil h;exact trodAll_mk0
 | t :: ts,_,_,_,hr,h,hs,hp=>by
   obtain ⟨v,vs,d,ds,p,q,rfl,rfl,rfl,h1,h2⟩:=trodAll_cons h;simp only [kG,aU,aT] at hr;exact ⟨p,q,WideElems.Trod_stays hl hr.1.1 hr.1.2 h1 (fun x hx=>hs x (by simp [hx])) (fun x hx=>hp x (by simp [hx])),
    Ha hl hr.2 h2 (fun x hx=>hs x (by simp [hx])) (fun x hx=>hp x (by simp [hx])),U⟩
theorem Na {w:World} {base:Nat} {sp:Nat→Bool} {hd:Bool}:∀ {ts:List TypeId} {vs:List Value} {ds:List (DataW H)} {ps:List MemPlace},DataW.TrodAll enc P w base sp hd ts vs ds ps→ds.length=ts.length
 | [],_,_,_,h=>by obtain ⟨rfl,rfl,rfl⟩:=trodAll_nil h;rfl
 | t :: ts,_,_,_,h=>by
   obtain ⟨v,vs,d,ds,p,q,rfl,rfl,rfl,h1,h2⟩:=trodAll_cons h;simp [Na h2]
theorem II {f:Func} {n:FuncId} {s:ChangeSpec} {tb:TypeId} {apart fresh handsOn again:Bool} (hl:laidOutB P=true) (hr:(f.params.toList.all fun t=>P.readableRec t && decide (t<P.types.size))=true) (hres:f.resultTypes=#[tb]) (hb:P.underlying tb=some .bool)
 (hv:s.vars=[]) (hs:∀ ds:List (DataW H),ds.length=f.params.toList.length→s.fn H ds={ results:=[.lit (.bool true)],args:=ds }) {W:World} {args:Array Value} {ds gs:List (DataW H)} {before:List MemPlace}
 (hW:DataW.Whole enc P f.params.toList s.vars apart W args.toList ds gs before) (hd:Does P n args.toList (Gz W) [] (fun v _ _=>v=.bool true)) :
 Calls P n args W fun e W'=>∃ v,e=.returned v∧s.post enc P f apart fresh handsOn again W args v W':=by
 refine (hd W (ae W)).mono fun e W' ⟨v,G',Ho,he,q1,q2,q3,q4,q5,hvv⟩=>⟨v,he,?_⟩
 subst hvv;have hbel:=IH q3;have hW':=hW;have hlt:=hW.lt;obtain ⟨p,q,hA,hV,rfl,hz,hn⟩:=hW;rw [hv] at hV;obtain ⟨rfl,rfl⟩:=trodVars_none hV;simp only [aY] at hW' hlt hz hn;have hlen:=Na hA;have hspec:=hs ds hlen;have hres':∀ (b:Nat) (sp:Nat→Bool) (hd:Bool),DataW.TrodAll enc P W' b sp hd f.resultTypes.toList ((Value.bool true).resultList f.resultTypes.size) (s.fn H (ds++[])).results []:=fun b sp hd=>by
  rw [aY,hspec,hres];exact ⟨[],[],shut_bool hb _,trodAll_mk0,U⟩
 have hargs:∀ sp:Nat→Bool,(∀ x∈p,sp x.block=true)→DataW.TrodAll enc P W' 0 sp true f.params.toList args.toList (s.fn H (ds++[])).args p:=fun sp hsp=>by
  rw [aY,hspec];exact Ha hl hr hA (fun x hx=>hbel.same (hlt x hx)) hsp
 have hvars:∀ sp:Nat→Bool,DataW.TrodVars enc P W' sp s.vars (s.fn H (ds++[])).vars []:=fun sp=>by
  rw [aY,hspec,hv];exact U
 have hold:∀ x∈p,(fun b=>decide (b<W.heap.size)) x.block=true:=fun x hx=>by simpa using hlt x hx
 refine ⟨ds,[],p,[],p,[],by simpa using hW',hres' _ _ _,hargs _ hold,hvars _,World.keptBut_mono (fun x hx=>⟨hx,.inr (by simpa using hx)⟩) (hbel.frame _),fun _=>?_⟩;refine ⟨ok_one hres U (okWide_bool_mk hb _),_,_,([]++p)++[],⟨[]++p,[],trodAll_append (hargs _ (fun _ _=>rfl)) (hres' _ _ _),hvars _,U,?_,?_⟩,?_⟩
 · intro b off hp;have hp':MemPlace.cell b off∈p:=by simpa using hp
   rw [hbel.frozen (by exact hlt _ hp')];exact hz b off hp'
 · intro ha;simpa using hn ha
 intro x hx _;simpa using hx
end
theorem Pf {W:World} {b o:Nat} {v:Value} (h:W.cell? ⟨b,o,none⟩=some v):(Gz W).cell b o=some v:=by
 unfold World.cell? at h;unfold A3.cell Gz;split at h
 · rename_i c t fz hb;rw [show W.heap[b]?=some (.cells c t fz) from hb];exact h
 cases h
theorem Tq {W:World} {a:Addr} {v:Value} (h:W.cell? a=some v):a.spot=none:=by
 unfold World.cell? at h;split at h
 · cases hs:a.spot with
   | none=>rfl
   | some x=>simp [hs] at h
 cases h
theorem MH {a:Addr} {i:Nat} (h:(a.add i).spot=none) (ha:i=0∨True):a.add i=⟨a.block,a.off+i,none⟩:=by
 unfold Addr.add at h ⊢;split
 · rename_i h0;subst h0;rw [aF rfl] at h;cases a;simp_all
 rfl
section
variable {H:Type} {enc:TypeId×Value→H} {P:Program} {α:Type} [A2 α] [Inhabited α]
def Dec (enc:TypeId×Value→H) (P:Program) (W:World) (E:TypeId) (Good:α→DataW H→Prop):Prop:=
 ∀ (n:Nat) (cs:List Value) (x:DataW H×List MemPlace),DataW.trod enc P W 0 (fun _=>true) true n E cs=some x→∃ y:α,cs=A2.enc y∧Good y x.1
theorem Wd {W:World} {b o:Nat} {xs:List α} (h:∀ i,i<xs.length→∀ j,j<A2.sz α→W.cell? ⟨b,o+(i*A2.sz α+j),none⟩=(A2.enc (xs[i]?.getD default))[j]?) (h0:0<A2.sz α):(Gz W).row b o (tN xs):=by
 intro q v hq;have hlt:q<(tN xs).length:=(bJ.1 hq).1;rw [tG] at hlt;have h1:q=(q / A2.sz α)*A2.sz α+q % A2.sz α:=by rw [Nat.mul_comm];exact (oI q _).symm
 have h2:q % A2.sz α<A2.sz α:=Nat.mod_lt _ h0;have h3:q / A2.sz α<xs.length:=(Nat.div_lt_iff_lt_mul h0).2 hlt;have h4:=Ej xs _ _ h3 h2;rw [←h1,hq] at h4;have h5:=h _ h3 _ h2;rw [←h1,←h4] at h5;exact Pf h5
theorem MI {W:World} {T E:TypeId} {Good:α→DataW H→Prop} {fuel:Nat} {cs:List Value} {x:DataW H×List MemPlace} (ht:P.underlying T=some (.slice E)) (hsz:P.cellsOf E=A2.sz α) (h0:0<A2.sz α)
 (dec:Dec (α:=α) enc P W E Good) (h:DataW.trod enc P W 0 (fun _=>true) true fuel T cs=some x) :
 ∃ (a:Option Addr) (cap:Nat) (xs:List α),cs=[.slice a xs.length cap]∧Arr (Gz W) a xs∧xs.length≤cap∧
  ((x.1=.nil∧xs=[])∨∃ l r,x.1=.slice l r∧l.length=xs.length∧∀ i,i<xs.length→∃ d,l[i]?=some d∧Good (xs[i]?.getD default) d):=by
 rcases Deep.open_slice ht h with ⟨rfl,rfl⟩ | ⟨a,len,cap,m,n,D,Pl,rfl,hb,hlc,hm,hmm,rfl,hx⟩
 · exact ⟨none,0,[],U,kC _,aH _,.inl ⟨U,U⟩⟩
 have hml:m=cap:=by rw [hmm];simp
 have hel:∀ i,i<len→∃ y:α,W.cells? 0 (a.add (i*A2.sz α)) (A2.sz α)=some (A2.enc y)∧Good y (D i):=fun i hi=>by
  obtain ⟨cs',h1,h2⟩:=hx i sN;obtain ⟨y,rfl,hg⟩:=dec _ _ _ h2;rw [hsz] at h1;exact ⟨y,h1,hg⟩
 obtain ⟨Y,hY⟩:=Deep.choose_lt hel;have hlen:((List.range len).map Y).length=len:=tU;have hget:∀ i,i<len→((List.range len).map Y)[i]?.getD default=Y i:=fun i hi=>by simp [hi]
 refine ⟨some a,cap,(List.range len).map Y,by rw [hlen],⟨tG _,?_⟩,by rw [hlen];exact hlc,.inr ⟨_,_,U,by simp,fun i hi=>?_⟩⟩
 · rw [hlen];rcases gD len with h00 | hpos
   · exact .inl h00
   refine .inr ⟨a.block,a.off,?_,?_⟩
   · have h1:=(World.cells?_some (hY 0 hpos).1).2.2 0 h0;rw [rQ] at h1;have h2:∃ v,(A2.enc (Y 0))[0]?=some v:=⟨_,aA (by rw [A2.len];exact h0)⟩
     obtain ⟨v,hv⟩:=h2;rw [hv] at h1;have h3:=Tq h1;cases a;simp only [Addr.add] at h3;simp_all
   refine Wd (fun i hi j hj=>?_) h0;rw [hlen] at hi;rw [hget i hi];have h1:=(World.cells?_some (hY i hi).1).2.2 j hj;have h2:∃ v,(A2.enc (Y i))[j]?=some v:=⟨_,aA (by rw [A2.len];exact hj)⟩
   obtain ⟨v,hv⟩:=h2;rw [hv] at h1 ⊢;rw [Deep.add_add] at h1;have h3:=Tq h1;rw [MH h3 (.inr trivial)] at h1;exact h1
 rw [hlen] at hi;rw [hget i hi];exact ⟨D i,by simp [hi],(hY i hi).2⟩
end
end Go.Sl
namespace Go.Proofs.YtkdelpdbjfpgmaaGreatDoor
open Go Go.Sl Go.ChangeShapes Go.WideShapes Go.RowKit Go.Joins
abbrev WI : List (String × DataW Unit) := [("math/bits.deBruijn32tab", Rows.laid_math_bits_deBruijn32tab), ("math/bits.deBruijn64tab", Rows.laid_math_bits_deBruijn64tab)]
def MJ:List Int:=[0,1,56,2,57,49,28,3,61,58,42,50,38,29,17,4,62,47,59,36,45,43,51,22,53,39,33,30,24,18,12,5,63,55,48,27,60,41,37,16,46,35,44,21,52,32,23,11,54,26,40,15,34,20,31,10,25,14,19,9,13,8,7,6]
theorem ft:Tryz.prog.underlying 4=some .bool:=sR
theorem SM:laidOutB Tryz.prog=true:=sR
theorem own:ownKnob Tryz.prog.godebug=none:=sR
theorem af : Tryz.prog.globalNamed "math/bits.deBruijn64tab" = some 1 := by kernel_rfl
theorem MK:(Tryz.prog.globals[1]?).map (·.type)=some 296:=sR
theorem XO:Tryz.prog.underlying 296=some (.array 64 5):=sR
theorem fu:Tryz.prog.underlying 5=some (.int .u8):=sR
theorem ML:Tryz.prog.cellsOf 296=64:=sR
theorem XP:Tryz.prog.cellsOf 5=1:=sR
theorem ah {W : World} (h : laidMetH Tryz.prog WI W) : Lib.TabIs Tryz.prog W "math/bits.deBruijn64tab" .u8 MJ := by
 have h1 := h.filter (fun x => x.1 == "math/bits.deBruijn64tab");have e : WI.filter (fun x => x.1 == "math/bits.deBruijn64tab") = [("math/bits.deBruijn64tab", Rows.laid_math_bits_deBruijn64tab)] := by kernel_rfl
 rw [e] at h1;exact Lib.tabIs_of_head (rest:=[]) af MK XO fu XP ML h1
theorem XQ {W:World} (h:laidMetH Tryz.prog WI W):TabOk (Gz W):=fun k v hv=>by
 have hk:k<MJ.length:=by
  have:=(bJ.1 hv).1;simpa [FM,MJ] using this
 have h1:=(ah h).cell af k hk;have h2:=Pf h1;rw [h2];have e:FM=MJ.map fun n=>.int .u8 n:=rfl;rw [e,bM,aA hk] at hv;rw [←hv,List.getD_eq_getElem?_getD,aA hk];rfl
def MM (cs:Array Value):Obj→Obj
 | .cells _ t frozen=>.cells cs t frozen
 | o=>o
def Lg (os:Os):World:=
 { World.holding Tryz.prog os ⟨#[],#[],[]⟩ with heap:=((World.holding Tryz.prog os ⟨#[],#[],[]⟩).heap.modify 0 (MM #[.int .u8 0,.int .u8 1,.int .u8 28,.int .u8 2,.int .u8 29,.int .u8 14,.int .u8 24,.int .u8 3,.int .u8 30,.int .u8 22,.int .u8 20,.int .u8 15,.int .u8 25,.int .u8 17,.int .u8 4,.int .u8 8,.int .u8 31,.int .u8 27,.int .u8 13,.int .u8 23,.int .u8 21,.int .u8 19,.int .u8 16,.int .u8 7,.int .u8 26,.int .u8 12,.int .u8 18,.int .u8 6,.int .u8 11,.int .u8 5,.int .u8 10,.int .u8 9])).modify 1 (MM FM.toArray) }
end Go.Proofs.YtkdelpdbjfpgmaaGreatDoor
namespace Go.Sl
open Go
def A7 (l:List A5):Prop:=∀ d∈l,0≤d.v∧d.v<4294967296
def sQ:List A5→Int
 | []=>0
 | d :: l=>d.v+4294967296*sQ l
def pb (n:Nat):Int:=((4294967296 ^ n:Nat):Int)
theorem Nw:pb 0=1:=rfl
theorem xY (n:Nat):pb (n+1)=4294967296*pb n:=by unfold pb;rw [rS,Nat.mul_comm,jX];rfl
theorem yQ (n:Nat):0<pb n:=by unfold pb;exact Int.ofNat_lt.2 (pJ sY)
theorem DM (m n:Nat):pb (m+n)=pb m*pb n:=by unfold pb;rw [oD,jX]
theorem Tr {m n:Nat} (h:m≤n):pb m≤pb n:=by unfold pb;exact Int.ofNat_le.2 (iJ sY h)
theorem uD:sQ []=0:=rfl
theorem uU (d:A5) (l:List A5):sQ (d :: l)=d.v+4294967296*sQ l:=rfl
theorem A7.nil:A7 []:=fun d h=>by simp at h
theorem A7.tail {d:A5} {l:List A5} (h:A7 (d :: l)):A7 l:=fun x hx=>h x (aW _ hx)
theorem A7.head {d:A5} {l:List A5} (h:A7 (d :: l)):0≤d.v∧d.v<4294967296:=h d bD
theorem A7.append {l m:List A5} (h:A7 l) (h':A7 m):A7 (l++m):=fun x hx=>by
 rcases iA.1 hx with h1 | h1
 · exact h x h1
 exact h' x h1
theorem A7.one {d:Int} (h:0≤d∧d<4294967296):A7 [⟨d⟩]:=fun x hx=>by
 have:x=⟨d⟩:=by simpa using hx
 subst this;exact h
theorem A7.take {l:List A5} (h:A7 l) (n:Nat):A7 (l.take n):=fun x hx=>h x (qZ hx)
theorem A7.at {l:List A5} (h:A7 l) {m:Int} (hm:0≤m∧m<l.length):0≤(l[m.toNat]?.getD default).v∧(l[m.toNat]?.getD default).v<4294967296:=by
 have hl:m.toNat<l.length:=sN;rw [aA hl];exact h _ (bT hl)
theorem uB:∀ {l:List A5},A7 l→0≤sQ l
 | [],_=>iM 0
 | d :: l,h=>by
   have h1:=uB h.tail;have h2:=h.head;rw [uU];omega
theorem wK:∀ {l:List A5},A7 l→sQ l<pb l.length
 | [],_=>sY
 | d :: l,h=>by
   have h1:=wK h.tail;have h2:=h.head;rw [uU,bA,xY];omega
theorem uQ:∀ (l m:List A5),sQ (l++m)=sQ l+pb l.length*sQ m
 | [],m=>by rw [fV,uD,cE,Nw];omega
 | d :: l,m=>by
   rw [List.cons_append,uU,uU,uQ l m,bA,xY,cU,←cM];omega
theorem Er (d:A5):sQ [d]=d.v:=by rw [uU,uD];omega
theorem IJ (l:List A5) (d:A5):sQ (l++[d])=sQ l+pb l.length*d.v:=by rw [uQ,Er]
theorem Es {l:List A5} {k:Nat} (h:k<l.length):sQ (l.take (k+1))=sQ (l.take k)+pb k*(l[((k:Nat):Int).toNat]?.getD default).v:=by
 rw [cL,aE,aA h];simp only [Option.toList_some,dZ];rw [IJ,bG,cY (Nat.le_of_lt h)]
theorem Bg (n:Nat):sQ (List.replicate n ⟨0⟩)=0:=by
 induction n with
 | zero=>rfl
 | succ n ih=>rw [oO,uU,ih];rfl
theorem DN (n:Nat):A7 (List.replicate n ⟨0⟩):=fun x hx=>by
 have:=jB hx;subst this;exact ⟨by decide,by decide⟩
abbrev nV:=@DN
theorem IK {l:List A5} {n:Nat} (h:∀ j,n≤j→j<l.length→(l[j]?.getD default).v=0):sQ (l.take n)=sQ l:=by
 rcases aK n l.length with hn | hn
 · have e:l=l.take n++l.drop n:=(fQ n l).symm;have hz:∀ (m:List A5),(∀ j,j<m.length→(m[j]?.getD default).v=0)→sQ m=0:=by
    intro m;induction m with
    | nil=>intro _;rfl
    | cons d m ih =>
      intro h0;have h1:=h0 0 tU;simp only [List.getElem?_cons_zero,dZ] at h1;rw [uU,h1,ih fun j hj=>by have:=h0 (j+1) (by simpa using hj);simpa using this];rfl
   have h2:sQ (l.drop n)=0:=hz _ fun j hj=>by
    rw [iZ];exact h (n+j) sN (by rw [gK] at hj;omega)
   have h3:sQ l=sQ (l.take n++l.drop n):=by rw [fQ]
   rw [h3,uQ,h2];omega
 rw [tZ hn]
theorem Nx {l:List A5} (hd:A7 l) (ht:E7 l) (h0:l≠[]):pb (l.length - 1)≤sQ l:=by
 have hl:0<l.length:=List.length_pos_iff.2 h0;have h1:(l[l.length - 1]?.getD default).v≠0:=by
  rcases ht with h | h
  · exact absurd h h0
  exact h
 have h2:=Es (l:=l) (k:=l.length - 1) sN;rw [Nat.sub_add_cancel hl,tZ (aH _),aE] at h2;have h3:=uB (hd.take (l.length - 1));have h4:(1:Int)≤(l[l.length - 1]?.getD default).v:=by
  have:=hd.at (m:=((l.length - 1:Nat):Int)) sN;rw [aE] at this;omega
 have h5:=bU h4 (dQ (yQ (l.length - 1)));omega
theorem Yz {l:List A5} (hd:A7 l) (ht:E7 l) {m:Nat} (h:sQ l<pb m):l.length≤m:=by
 by_cases h0:l=[]
 · subst h0;exact aM _
 have h1:=Nx hd ht h0;rcases aK m l.length with h2 | h2
 · have h3:=Tr (show m≤l.length - 1 by omega);omega
 exact h2
theorem Pg {l:List A5} (hd:A7 l) (ht:E7 l) (h0:l≠[]):0<sQ l:=pA (yQ _) (Nx hd ht h0)
theorem zS {l m:List A5} (hl:A7 l) (hm:A7 m) (tm:E7 m) (h:l.length<m.length):sQ l<sQ m:=by
 have h1:=wK hl;have h2:=Nx hm tm (fun e=>by rw [e] at h;simp at h);have h3:=Tr (show l.length≤m.length - 1 by omega);omega
structure D9 (neg:Bool) (l:List A5) (z:Int):Prop where
 digs:A7 l
 top:E7 l
 sign:l=[]→neg=false
 val:z=if neg=true then -sQ l else sQ l
theorem D9.abs {neg:Bool} {l:List A5} {z:Int} (h:D9 neg l z):sQ l=z.natAbs:=by
 have h1:=uB h.digs;have h2:=h.val;split at h2 <;> omega
theorem D9.neg_iff {neg:Bool} {l:List A5} {z:Int} (h:D9 neg l z):neg=decide (z<0):=by
 have h2:=h.val;by_cases h0:l=[]
 · have h3:=h.sign h0;subst h0;rw [h3] at h2 ⊢;rw [uD] at h2;have:¬z<0:=by simp at h2;omega
   simp [this]
 have h1:=Pg h.digs h.top h0;cases neg with
 | true =>
   rw [aF rfl] at h2;have:z<0:=sN;simp [this]
 | false =>
   rw [aD (by decide)] at h2;have:¬z<0:=sN;simp [this]
theorem D9.zero_iff {neg:Bool} {l:List A5} {z:Int} (h:D9 neg l z):l.length=0↔z=0:=by
 have h2:=h.val;constructor
 · intro h0;have h0:=dO h0;subst h0;rw [uD] at h2;split at h2 <;> omega
 intro hz;by_cases h0:l=[]
 · rw [h0];rfl
 have h1:=Pg h.digs h.top h0;split at h2 <;> omega
theorem D9.len {neg:Bool} {l:List A5} {z:Int} (h:D9 neg l z) {m:Nat} (hz:(z.natAbs:Int)<pb m):l.length≤m:=by
 refine Yz h.digs h.top ?_;rw [h.abs];exact hz
def C1 (G:A3) (x:IV) (z:Int):Prop:=∃ l:List A5,l.length=x.n∧x.n≤x.c∧Arr G x.a l∧D9 x.neg l z
theorem C1.up {G G':A3} {x:IV} {z:Int} (h:C1 G x z) (hl:G.le G'):C1 G' x z:=by
 obtain ⟨l,h1,h0,h2,h3⟩:=h;exact ⟨l,h1,h0,h2.up hl,h3⟩
theorem C1.zero (G:A3):C1 G ⟨false,none,0,0⟩ 0:=⟨[],U,aH _,kC G,⟨A7.nil,E7.nil,fun _=>rfl,U⟩⟩
theorem D5 (a b:Nat) (ha:a<18446744073709551616) (hb:b<18446744073709551616):bits .and .u64 (a:Int) (b:Int)=((a &&& b:Nat):Int):=by
 have hx:a &&& b<2 ^ 64:=Nat.and_lt_two_pow _ sN;have h1:(BitVec.ofInt 64 (a:Int)).toNat=a:=by
  rw [kB,lC];exact mI sN
 have h2:(BitVec.ofInt 64 (b:Int)).toNat=b:=by
  rw [kB,lC];exact mI sN
 show IntKind.u64.wrap ((BitVec.ofInt 64 (a:Int) &&& BitVec.ofInt 64 (b:Int)).toNat:Int)=_;rw [BitVec.toNat_and,h1,h2,nW];omega
theorem D7 (a b:Nat) (ha:a<18446744073709551616) (hb:b<18446744073709551616):bits .or .u64 (a:Int) (b:Int)=((a ||| b:Nat):Int):=by
 have hx:a ||| b<2 ^ 64:=Nat.or_lt_two_pow sN sN
 have h1:(BitVec.ofInt 64 (a:Int)).toNat=a:=by
  rw [kB,lC];exact mI sN
 have h2:(BitVec.ofInt 64 (b:Int)).toNat=b:=by
  rw [kB,lC];exact mI sN
 show IntKind.u64.wrap ((BitVec.ofInt 64 (a:Int) ||| BitVec.ofInt 64 (b:Int)).toNat:Int)=_;rw [BitVec.toNat_or,h1,h2,nW];omega
theorem Za (x:Int) (h:0≤x∧x<18446744073709551616):bits .and .u64 x 1=x % 2:=by
 have h1:=D5 x.toNat 1 sN sN;rw [Nat.and_one_is_mod,cO h.1] at h1;have h2:((x.toNat % 2:Nat):Int)=x % 2:=sN;exact h1.trans h2
theorem Zb (x:Int) (h:0≤x∧x<18446744073709551616):bits .and .u64 x 4294967295=x % 4294967296:=by
 have h1:=D5 x.toNat 4294967295 sN sN;rw [show (4294967295:Nat)=2 ^ 32 - 1 by decide,sG,cO h.1] at h1;have h2:((x.toNat % 2 ^ 32:Nat):Int)=x % 4294967296:=sN;exact h1.trans h2
theorem DP (x y:Int) (hx:0≤x∧x<4294967296) (hy:0≤y∧y<4294967296):bits .or .u64 (x*4294967296) y=x*4294967296+y:=by
 have h1:=D7 (2 ^ 32*x.toNat) y.toNat sN sN;rw [←lP (b:=y.toNat) (i:=32) sN x.toNat] at h1;have e1:((2 ^ 32*x.toNat:Nat):Int)=x*4294967296:=sN;have e2:((2 ^ 32*x.toNat+y.toNat:Nat):Int)=x*4294967296+y:=sN;rw [e1,e2,cO hy.1] at h1;exact h1
theorem Zc (x y:Int) (hx:0≤x∧x<4294967296) (hy:0≤y∧y<4294967296):bits .or .u64 y (x*4294967296)=x*4294967296+y:=by
 have h1:=D7 y.toNat (2 ^ 32*x.toNat) sN sN;rw [Nat.or_comm,←lP (b:=y.toNat) (i:=32) sN x.toNat] at h1;have e1:((2 ^ 32*x.toNat:Nat):Int)=x*4294967296:=sN;have e2:((2 ^ 32*x.toNat+y.toNat:Nat):Int)=x*4294967296+y:=sN;rw [e1,e2,cO hy.1] at h1;exact h1
theorem Nb (x y:Int) (s:Nat) (hx:0≤x∧x<((2 ^ s:Nat):Int)) (hy:0≤y∧y<4294967296) (hs:s≤32) (hm:y % ((2 ^ s:Nat):Int)=0):bits .or .u32 x y=x+y:=by
 have hp:2 ^ s≤2 ^ 32:=iJ sY hs;have h1:=Nn x.toNat y.toNat sN sN;have hm':y.toNat % 2 ^ s=0:=by
  have h2:((y.toNat % 2 ^ s:Nat):Int)=0:=by rw [Int.natCast_emod,cO hy.1];exact hm
  exact Int.ofNat_eq_zero.1 h2
 have h3:=oI y.toNat (2 ^ s);rw [hm',iS] at h3;have h4:=lP (b:=x.toNat) (i:=s) sN (y.toNat / 2 ^ s);rw [h3] at h4;rw [Nat.or_comm,←h4,cO hx.1,cO hy.1] at h1;rw [h1];omega
section
variable {P:Program} {e:A9} {H:Hp} {G:A3} {ty:TypeId} {t t':TypeId} {x y:Operand} {m n:Int} {k:IntKind}
theorem MN (hx:e.ev x=some (.int .u64 m)) (hy:e.ev y=some (.int k 32)) (h0:0≤m):Qy P (.binOp .shr t x y t') ty e H G (.int .u64 (m / 4294967296)):=by
 have h:=nT (P:=P) (H:=H) (G:=G) (ty:=ty) (t:=t) (t':=t') hx hy sY;have e1:m.fdiv (2 ^ (Min.min (32:Int).toNat IntKind.u64.bits))=m / 4294967296:=by
  rw [show Min.min (32:Int).toNat IntKind.u64.bits=32 by decide];exact pB _ sY
 rw [e1] at h;exact h
abbrev gJ:=@MN
theorem MO (hx:e.ev x=some (.int .u64 m)) (hy:e.ev y=some (.int k 32)) (h0:0≤m∧m<4294967296):Qy P (.binOp .shl t x y t') ty e H G (.int .u64 (m*4294967296)):=by
 have h:=Qy.shl (P:=P) (H:=H) (G:=G) (ty:=ty) (t:=t) (t':=t') hx hy sY;have e1:IntKind.u64.wrap (m*2 ^ (Min.min (32:Int).toNat IntKind.u64.bits))=m*4294967296:=by
  rw [show Min.min (32:Int).toNat IntKind.u64.bits=32 by decide];exact kN _ sN
 rw [e1] at h;exact h
abbrev rP:=@MO
theorem DQ {s:TypeId} (hs:(P.underlying s).isSome=true) (ht:P.underlying t=some (.int .u32)) (hx:e.ev x=some (.int .u64 m)):Qy P (.convert s t x) ty e H G (.int .u32 (m % 4294967296)):=by
 have h:=cP (P:=P) (H:=H) (G:=G) (ty:=ty) hs ht hx;rw [IntKind.wrap_u32] at h;exact h
abbrev iQ:=@DQ
theorem SN (hx:e.ev x=some (.int .u64 m)) (hy:e.ev y=some (.int .u64 1)) (h0:0≤m∧m<18446744073709551616):Qy P (.binOp .and t x y t') ty e H G (.int .u64 (m % 2)):=by
 have h:=lN (P:=P) (H:=H) (G:=G) (ty:=ty) (t:=t) (t':=t') hx hy;rw [Za m h0] at h;exact h
abbrev oT:=@SN
theorem IL (hx:e.ev x=some (.int .u64 m)) (hy:e.ev y=some (.int .u64 4294967295)) (h0:0≤m∧m<18446744073709551616):Qy P (.binOp .and t x y t') ty e H G (.int .u64 (m % 4294967296)):=by
 have h:=lN (P:=P) (H:=H) (G:=G) (ty:=ty) (t:=t) (t':=t') hx hy;rw [Zb m h0] at h;exact h
abbrev pU:=@IL
theorem Jf (hx:e.ev x=some (.int .u64 (m*4294967296))) (hy:e.ev y=some (.int .u64 n)) (h0:0≤m∧m<4294967296) (h1:0≤n∧n<4294967296):Qy P (.binOp .or t x y t') ty e H G (.int .u64 (m*4294967296+n)):=by
 have h:=sE (P:=P) (H:=H) (G:=G) (ty:=ty) (t:=t) (t':=t') hx hy;rw [DP m n h0 h1] at h;exact h
theorem IM (hx:e.ev x=some (.int .u64 n)) (hy:e.ev y=some (.int .u64 (m*4294967296))) (h0:0≤m∧m<4294967296) (h1:0≤n∧n<4294967296):Qy P (.binOp .or t x y t') ty e H G (.int .u64 (m*4294967296+n)):=by
 have h:=sE (P:=P) (H:=H) (G:=G) (ty:=ty) (t:=t) (t':=t') hx hy;rw [Zc m n h0 h1] at h;exact h
theorem SO {s:Nat} (hx:e.ev x=some (.int .u64 m)) (hy:e.ev y=some (.int k (s:Int))) (h0:0≤m∧m<4294967296) (hs:s≤32):Qy P (.binOp .shl t x y t') ty e H G (.int .u64 (m*((2 ^ s:Nat):Int))):=by
 have h:=Qy.shl (P:=P) (H:=H) (G:=G) (ty:=ty) (t:=t) (t':=t') hx hy sN;have e1:IntKind.u64.wrap (m*2 ^ (Min.min (s:Int).toNat IntKind.u64.bits))=m*((2 ^ s:Nat):Int):=by
  rw [aE,cY (bO hs sY)];have e2:(2:Int) ^ s=((2 ^ s:Nat):Int):=by rw [Int.natCast_pow];rfl
  rw [e2];have hp:(1:Int)≤((2 ^ s:Nat):Int)∧((2 ^ s:Nat):Int)≤4294967296:=by
   have h1:0<2 ^ s:=pJ sY;have h2:2 ^ s≤2 ^ 32:=iJ sY hs;omega
  have h3:=bU hp.2 h0.1;have h4:=kO h0.1 (show (0:Int)≤((2 ^ s:Nat):Int) by omega);exact kN _ sN
 rw [e1] at h;exact h
theorem FN {s:Nat} (hx:e.ev x=some (.int .u64 m)) (hy:e.ev y=some (.int k (s:Int))) (h0:0≤m) (hs:s≤32):Qy P (.binOp .shr t x y t') ty e H G (.int .u64 (m / ((2 ^ s:Nat):Int))):=by
 have h:=nT (P:=P) (H:=H) (G:=G) (ty:=ty) (t:=t) (t':=t') hx hy sN;have e1:m.fdiv (2 ^ (Min.min (s:Int).toNat IntKind.u64.bits))=m / ((2 ^ s:Nat):Int):=by
  rw [aE,cY (bO hs sY)];have e2:(2:Int) ^ s=((2 ^ s:Nat):Int):=by rw [Int.natCast_pow];rfl
  rw [e2];exact pB _ (rN _)
 rw [e1] at h;exact h
end
theorem We (P s:Int):P*(s % 4294967296)+4294967296*P*(s / 4294967296)=P*s:=by
 have h:=jR s 4294967296;have e:4294967296*P*(s / 4294967296)=P*(4294967296*(s / 4294967296)):=by rw [cG 4294967296 P,cM]
 rw [e,←cU,h]
def lg (l:List A5) (i:Nat):Int:=(l[((i:Nat):Int).toNat]?.getD default).v
theorem Bz {l:List A5} (h:A7 l) {i:Nat} (hi:i<l.length):0≤lg l i∧lg l i<4294967296:=h.at sN
theorem Et {l:List A5} {i:Nat} (hi:l.length≤i):lg l i=0:=by
 unfold lg;rw [aE,bZ hi];rfl
theorem vP {l:List A5} (h:A7 l) (i:Nat):0≤lg l i∧lg l i<4294967296:=by
 rcases aK i l.length with h1 | h1
 · exact Bz h h1
 rw [Et h1];decide
theorem Ht {l:List A5} {i:Nat} (h:i<l.length) (d:Int):lg (l.set i ⟨d⟩) i=d:=by
 unfold lg;rw [aE,aA (by rw [aG];exact h),List.getElem_set_self];rfl
theorem zD {l:List A5} {i j:Nat} (h:i≠j) (d:A5):lg (l.set i d) j=lg l j:=by
 unfold lg;rw [aE,List.getElem?_set_ne h]
theorem uF (l:List A5) (i:Nat):sQ (l.take (i+1))=sQ (l.take i)+pb i*lg l i:=by
 rcases aK i l.length with h | h
 · exact Es h
 rw [tZ h,tZ sN,Et h,bS,fI]
theorem wZ {l:List A5} {i:Nat} (h:i<l.length):sQ (l.drop i)=lg l i+4294967296*sQ (l.drop (i+1)):=by
 rw [dM h,uU];unfold lg;rw [aE,aA h];rfl
theorem Bh (l:List A5) {m:Nat} (h:m≤l.length):sQ l=sQ (l.take m)+pb m*sQ (l.drop m):=by
 have h1:sQ l=sQ (l.take m++l.drop m):=by rw [fQ]
 rw [h1,uQ,bG,cY h]
theorem Cs:∀ (l:List A5) (k:Nat) (d:A5),k<l.length→sQ (l.set k d)=sQ l+pb k*(d.v - lg l k)
 | [],k,d,h=>by simp at h
 | x :: l,0,d,_=>by
   rw [List.set_cons_zero,uU,uU,Nw];show _=_+1*(d.v - x.v);omega
 | x :: l,k+1,d,h=>by
   have ih:=Cs l k d (by simpa using h);have e:lg (x :: l) (k+1)=lg l k:=by unfold lg;rw [aE,aE,iL]
   rw [List.set_cons_succ,uU,uU,ih,xY,e,cU,←cM];omega
theorem uC {l:List A5} (h:A7 l) (k:Nat) {s:Int} (hs:0≤s∧s<4294967296):A7 (l.set k ⟨s⟩):=fun d hd=>by
 rcases fC hd with h1 | h1
 · exact h d h1
 subst h1;exact hs
theorem Hb (s:Int):0≤s % 4294967296∧s % 4294967296<4294967296:=⟨lG _ sY,gE _ sY⟩
def E6 (l:List A5) (n:Nat):Prop:=n≤l.length∧(∀ j,n≤j→j<l.length→(l[j]?.getD default).v=0)∧(n=0∨(l[n - 1]?.getD default).v≠0)
theorem E6.val {l:List A5} {n:Nat} (h:E6 l n):sQ (l.take n)=sQ l:=IK h.2.1
theorem E6.top {l:List A5} {n:Nat} (h:E6 l n):E7 (l.take n):=by
 obtain ⟨h1,h2,h3⟩:=h;rcases h3 with h3 | h3
 · subst h3;exact .inl U
 by_cases h0:n=0
 · subst h0;exact .inl U
 refine .inr ?_;rw [bG,cY h1,mW,aF (by omega)];exact h3
theorem Jg {α:Type} [A2 α] {G:A3} {a:Option Addr} {c sz:Nat} {l:List α} (h:Arr G a l) (n:Nat):Arr G (C7 a c 0 sz) (l.take n):=by
 refine ⟨tG _,?_⟩;rcases h.2 with h0 | ⟨b,o,rfl,hr⟩
 · left;rw [bG];omega
 refine .inr ⟨b,o,?_,fun i v hi=>hr i v ?_⟩
 · unfold C7;split
   · rfl
   simp [Addr.add]
 have e:tN l=tN (l.take n)++tN (l.drop n):=by rw [←wG,fQ]
 rw [e,bF (bJ.1 hi).1];exact hi
theorem Jh {la lb r:List A5} {i:Nat} {cy s:Int} (hi:i<r.length) (hv:sQ (la.take i)+sQ (lb.take i)=sQ (r.take i)+pb i*cy) (hs:s=cy+lg la i+lg lb i) :
 sQ (la.take (i+1))+sQ (lb.take (i+1))=sQ ((r.set i ⟨s % 4294967296⟩).take (i+1))+pb (i+1)*(s / 4294967296):=by
 rw [uF,uF,uF (r.set i _),Ht hi,mN (aH i),xY];have h:=We (pb i) s;rw [hs,cU,cU,←hs] at h;omega
theorem Ji {la lb r:List A5} {i:Nat} {cy cy' s:Int} (hi:i<r.length) (hv:sQ (la.take i) - sQ (lb.take i)=sQ (r.take i) - pb i*cy) (hs:s=lg la i - lg lb i - cy+4294967296*cy') :
 sQ (la.take (i+1)) - sQ (lb.take (i+1))=sQ ((r.set i ⟨s⟩).take (i+1)) - pb (i+1)*cy':=by
 rw [uF,uF,uF (r.set i _),Ht hi,mN (aH i),xY];have h:pb i*s=pb i*lg la i - pb i*lg lb i - pb i*cy+4294967296*pb i*cy':=by
  rw [hs,cU,kS,kS,←cM,cG (pb i) 4294967296]
 omega
theorem SP {la lb r:List A5} {n:Nat} {cy:Int} (hn:n=la.length) (hb:lb.length≤la.length) (hle:sQ lb≤sQ la) (hri:r.length=n) (hd:A7 r) (hc:0≤cy∧cy≤1) (hv:sQ (la.take n) - sQ (lb.take n)=sQ (r.take n) - pb n*cy):sQ r=sQ la - sQ lb:=by
 rw [tZ sN,tZ sN,tZ sN] at hv;have h:=wK hd;rw [hri] at h;have hcy:cy=0:=by
  rcases (show cy=0∨cy=1 by omega) with h1 | h1
  · exact h1
  rw [h1,gT] at hv;omega
 rw [hcy,bS] at hv;omega
theorem IN {r lb:List A5} {i j:Nat} {c s x A:Int} (hk:i+j<r.length) (hv:sQ r+pb (i+j)*c=A+pb i*(x*sQ (lb.take j))) (hs:s=c+(x*lg lb j+lg r (i+j))) :
 sQ (r.set (i+j) ⟨s % 4294967296⟩)+pb (i+(j+1))*(s / 4294967296)=A+pb i*(x*sQ (lb.take (j+1))):=by
 rw [Cs r (i+j) ⟨s % 4294967296⟩ hk,uF,←pM,xY];have h1:=We (pb (i+j)) s;have h2:pb (i+j)*s=pb (i+j)*c+(pb (i+j)*(x*lg lb j)+pb (i+j)*lg r (i+j)):=by rw [hs,cU,cU]
 have h3:pb i*(x*(sQ (lb.take j)+pb j*lg lb j))=pb i*(x*sQ (lb.take j))+pb (i+j)*(x*lg lb j):=by
  rw [cU,cU,DM];congr 1;rw [cM,←cM x,cG x (pb j),cM]
 have h4:pb (i+j)*(s % 4294967296 - lg r (i+j))=pb (i+j)*(s % 4294967296) - pb (i+j)*lg r (i+j):=kS _ _ _;show sQ r+pb (i+j)*(s % 4294967296 - lg r (i+j))+4294967296*pb (i+j)*(s / 4294967296)=_;rw [h3,h4];omega
theorem MP {la lb r:List A5} {i:Nat} {c:Int} (hk:i+lb.length<r.length) (hz:lg r (i+lb.length)=0) (hv:sQ r+pb (i+lb.length)*c=sQ (la.take i)*sQ lb+pb i*(lg la i*sQ (lb.take lb.length))) :
 sQ (r.set (i+lb.length) ⟨c⟩)=sQ (la.take (i+1))*sQ lb:=by
 rw [Cs r _ _ hk,hz,tZ (aH _)] at *;show sQ r+pb (i+lb.length)*(c - 0)=_;rw [kZ,hv,uF,mC,cM]
theorem Dj {x y:Int} (hx:0≤x∧x<4294967296) (hy:0≤y∧y<4294967296):0≤x*y∧x*y≤18446744065119617025:=by
 refine ⟨kO hx.1 hy.1,?_⟩;have h1:x*y≤4294967295*y:=iB sN hy.1;omega
theorem Zd {la q:List A5} {i:Nat} {r B:Int} (hi:i<la.length) (hq:i<q.length) (hv:sQ (la.drop (i+1))=sQ (q.drop (i+1))*B+r) :
 sQ (la.drop i)=sQ ((q.set i ⟨(r*4294967296+lg la i) / B⟩).drop i)*B+(r*4294967296+lg la i) % B:=by
 rw [wZ hi,wZ (l:=q.set i _) (by rw [aG];exact hq),Ht hq,List.drop_set_of_lt sN,hv];have h:=jR (r*4294967296+lg la i) B;rw [mC,cG ((r*4294967296+lg la i) / B) B,cM 4294967296,cU];omega
theorem IP {r a B:Int} (hr:0≤r∧r<B) (ha:0≤a∧a<4294967296):0≤(r*4294967296+a) / B∧(r*4294967296+a) / B<4294967296:=by
 refine ⟨oK sN sN,nR sN ?_⟩;have h1:=iB (show r+1≤B by omega) (show (0:Int)≤4294967296 by decide);rw [cG 4294967296 B];omega
theorem MQ {lb:List A5} (h:lb.length=1):sQ lb=lg lb 0:=by
 match lb,h with
 | [d],_=>rw [Er];rfl
theorem MR {x y:A5} (h:x.v=y.v):x=y:=by cases x;cases y;simp only at h;rw [h]
theorem Ph {la lb:List A5} {k:Nat} (hn:la.length=lb.length) (h:∀ j,k≤j→j<la.length→lg la j=lg lb j):la.drop k=lb.drop k:=by
 refine gW fun i=>?_;rw [iZ,iZ];rcases aK (k+i) la.length with h1 | h1
 · have h2:=h (k+i) sN h1;unfold lg at h2;rw [aE] at h2;rw [aA h1,aA sN] at h2 ⊢;exact congrArg some (MR h2)
 rw [bZ h1,bZ sN]
theorem Ze {la lb:List A5} {k:Nat} (hn:la.length=lb.length) (hk:k<la.length) (da:A7 la) (db:A7 lb) (h:∀ j,k+1≤j→j<la.length→lg la j=lg lb j) (hlt:lg la k<lg lb k):sQ la<sQ lb:=by
 have e:=Ph hn h;have h1:=Bh la (show k+1≤la.length by omega);have h2:=Bh lb (show k+1≤lb.length by omega);rw [e] at h1;rw [uF] at h1 h2;have h3:=wK (da.take k);rw [bG,cY sN] at h3;have h4:=uB (db.take k);have h5:=bU (show lg la k+1≤lg lb k by omega) (dQ (yQ k));rw [cU,gT] at h5;omega
theorem MS {p Ul U3 Vl V2 g:Int} (hp:0<p) (hUl:Ul<p) (hVl:0≤Vl) (hg:0≤g) (h:U3<g*V2):Ul+p*U3<g*(Vl+p*V2):=by
 have h1:=bU (show U3+1≤g*V2 by omega) (dQ hp);have h2:=kO hg hVl;rw [cU,gT] at h1;rw [cU,gA g p];omega
theorem SQ {p Ul U3 Vl V2 g:Int} (hp:0<p) (hUl:0≤Ul) (hVl:0≤Vl∧Vl<p) (hg:0≤g∧g<4294967296) (hV2:4294967296≤V2) (h:g*V2≤U3):(g - 1)*(Vl+p*V2)≤Ul+p*U3:=by
 have h1:=bU h (dQ hp);have h2:=bU (dQ hVl.2) hg.1;have h3:=iB (dQ hg.2) (dQ hp);have h4:=bU hV2 (dQ hp);rw [kR,dP,cU,gA g p];rw [cG p 4294967296] at h4;omega
theorem MT {g v1 v2 high rest u2:Int} (h:g*v1+rest=high):g*(v2+4294967296*v1) - (u2+4294967296*high)=g*v2 - (rest*4294967296+u2):=by
 rw [cU,gA g 4294967296,←h];omega
theorem MU {g v1 high rest:Int} (h:g*v1+rest=high) (hr:4294967296≤rest) (hv:0<v1) (hh:high<v1*4294967296+4294967296):g<4294967296:=by
 rcases qF g 4294967296 with h1 | h1
 · exact h1
 have h2:=iB h1 (dQ hv);omega
section
variable {u v:List A5} {m:Nat}
theorem SR (hu:u.length=m+3):sQ u=sQ (u.take m)+pb m*(lg u m+4294967296*(lg u (m+2)*4294967296+lg u (m+1))):=by
 have h0:=Bh u (show m≤u.length by omega);rw [wZ (l:=u) (i:=m) sN,wZ (l:=u) (i:=m+1) sN,wZ (l:=u) (i:=m+1+1) sN,eX (show u.length≤m+1+1+1 by omega),uD] at h0;rw [h0];congr 2;show lg u m+4294967296*(lg u (m+1)+4294967296*(lg u (m+2)+4294967296*0))=_;omega
theorem MV (hv:v.length=m+2):sQ v=sQ (v.take m)+pb m*(lg v m+4294967296*lg v (m+1)):=by
 have h0:=Bh v (show m≤v.length by omega);rw [wZ (l:=v) (i:=m) sN,wZ (l:=v) (i:=m+1) sN,eX (show v.length≤m+1+1 by omega),uD] at h0;rw [h0];congr 2;omega
theorem yR {l:List A5} (d:A7 l) (h:m≤l.length):0≤sQ (l.take m)∧sQ (l.take m)<pb m:=by
 have h1:=wK (d.take m);rw [bG,cY h] at h1;exact ⟨uB (d.take m),h1⟩
variable (hu:u.length=m+3) (hv:v.length=m+2) (du:A7 u) (dv:A7 v)
include hu hv du dv
theorem MW {g rest high:Int} (hh:high=lg u (m+2)*4294967296+lg u (m+1)) (h1:0<lg v (m+1)) (hg:g=high / lg v (m+1)) (hr:rest=high % lg v (m+1)) :
 g*lg v (m+1)+rest=high∧0≤g∧0≤rest∧rest<lg v (m+1)∧sQ u<(g+1)*sQ v:=by
 have a1:=vP du (m+2);have a2:=vP du (m+1);have a3:=vP du m;have a4:=vP dv m;have hn:0≤high:=sN;have e1:=jR high (lg v (m+1));have e2:=gE high h1;have e3:=lG high (show lg v (m+1)≠0 by omega);have e4:=oK hn (dQ h1);rw [←hg,←hr] at e1;rw [←hr] at e2 e3;rw [←hg] at e4;rw [cG] at e1;refine ⟨by omega,e4,e3,e2,?_⟩;rw [SR hu,MV hv,←hh];refine MS (yQ m) (yR du sN).2 (yR dv sN).1 sN ?_;have e5:(g+1)*lg v (m+1)=g*lg v (m+1)+lg v (m+1):=by rw [mC,dP]
 have e6:=kO (show 0≤g+1 by omega) a4.1;rw [cU,gA (g+1) 4294967296,e5];omega
theorem XR {g rest high:Int} (hh:high=lg u (m+2)*4294967296+lg u (m+1)) (h:g*lg v (m+1)+rest=high) (hg:0≤g) (hc:rest*4294967296+lg u m<g*lg v m):sQ u<g*sQ v:=by
 have e:=MT (v2:=lg v m) (u2:=lg u m) h;rw [SR hu,MV hv,←hh];exact MS (yQ m) (yR du sN).2 (yR dv sN).1 hg sN
theorem MX {g rest high:Int} (hh:high=lg u (m+2)*4294967296+lg u (m+1)) (h:g*lg v (m+1)+rest=high) (hg:0≤g∧g<4294967296) (h1:1≤lg v (m+1)) (hc:g*lg v m≤rest*4294967296+lg u m):(g - 1)*sQ v≤sQ u:=by
 have e:=MT (v2:=lg v m) (u2:=lg u m) h;have a4:=vP dv m;rw [SR hu,MV hv,←hh];exact SQ (yQ m) (yR du sN).1 (yR dv sN) hg sN sN
end
theorem Aq {u v w:List A5} {i:Nat} {t c c' b b' s:Int} (hi:i<w.length) (hv:sQ (u.take i) - t*sQ (v.take i)=sQ (w.take i) - pb i*(b+c)) (hc:c'=c+lg v i*t)
 (hs:s=lg u i - c' % 4294967296 - b+4294967296*b') :
 sQ (u.take (i+1)) - t*sQ (v.take (i+1))=sQ ((w.set i ⟨s⟩).take (i+1)) - pb (i+1)*(b'+c' / 4294967296):=by
 rw [uF,uF,uF (w.set i _),Ht hi,mN (aH i),xY];have h1:=We (pb i) c';have h2:pb i*c'=pb i*c+t*(pb i*lg v i):=by rw [hc,cU,cG (lg v i) t,gA t]
 have h3:pb i*s=pb i*lg u i - pb i*(c' % 4294967296) - pb i*b+4294967296*pb i*b':=by
  rw [hs,cU,kS,kS,←cM,cG (pb i) 4294967296]
 rw [cU] at hv;rw [cU t,cU (4294967296*pb i)];omega
theorem DR {c x t:Int} (hc:0≤c∧c<4294967296) (hx:0≤x∧x<4294967296) (ht:0≤t∧t<4294967296):0≤c+x*t∧c+x*t<18446744073709551616∧0≤(c+x*t) / 4294967296∧(c+x*t) / 4294967296<4294967296∧0≤x*t∧x*t≤18446744065119617025:=by
 have h:=Dj hx ht;omega
theorem MY {u v w z:List A5} {n:Nat} {g c:Int} (hu:sQ w=sQ u - g*sQ v+pb n) (hlow:(g - 1)*sQ v≤sQ u) (hup:sQ u<g*sQ v) (hw:w.length=n) (hz:z.length=n) (hvn:sQ v<pb n) (hvl:v.length≤n) (dz:A7 z) (hc:0≤c∧c≤1)
 (hs:sQ (w.take n)+sQ (v.take n)=sQ (z.take n)+pb n*c):sQ z=sQ u - (g - 1)*sQ v:=by
 rw [tZ sN,tZ sN,tZ sN] at hs;have h1:=uB dz;have h2:=wK dz;rw [hz] at h2;have e:(g - 1)*sQ v=g*sQ v - sQ v:=by rw [kR,dP]
 have hc1:c=1:=by
  rcases (show c=0∨c=1 by omega) with h | h
  · rw [h,bS] at hs;omega
  exact h
 rw [hc1,gT] at hs;omega
theorem SS (p w w' q:List A5) (h:w'.length=w.length):sQ (p++(w'++q))=sQ (p++(w++q))+pb p.length*(sQ w' - sQ w):=by
 rw [uQ,uQ,uQ,uQ,h,cU,cU,kS];omega
theorem MZ {A V q g:Int} {R R':Int} {l:List A5} {k:Nat} (hk:k<l.length) (hz:lg l k=0) (hA:A=sQ l*V+R) (hR:R'=R+pb k*(-(g*V))):A=sQ (l.set k ⟨g⟩)*V+R':=by
 rw [Cs l k _ hk,hz,hA,hR,kZ,mC,cM,iY];show _=sQ l*V+pb k*(g*V)+(R + -(pb k*(g*V)));omega
section
variable {P:Program} {ops:Array Oper} {rest:List Oper} {B:Bs} {e:A9} {D:List Deferred} {H:Hp} {G:A3} {K:Act→World→Prop}
 {ty:TypeId} {pos:String} {after:Array Edge} {d:Nat}
theorem SU {p w q:List A5} {m:Int} (hm:0≤m∧m<w.length):(p++(w++q))[((p.length:Int)+m).toNat]?.getD default=w[m.toNat]?.getD default:=by
 have h1:((p.length:Int)+m).toNat=p.length+m.toNat:=sN;rw [h1,cB sN,iK,bF sN]
theorem SW {p w q:List A5} {m:Int} (hm:0≤m∧m<w.length) (z:A5):(p++(w++q)).set ((p.length:Int)+m).toNat z=p++(w.set m.toNat z++q):=by
 have h1:((p.length:Int)+m).toNat=p.length+m.toNat:=sN;rw [h1,qP _ _ sN,iK,List.set_append_left _ _ sN]
theorem FO {k:Nat} {m:Int} (hm:0≤m):k+m.toNat*1=0+((k:Int)+m).toNat*A2.sz A5+0:=by
 show k+m.toNat*1=0+((k:Int)+m).toNat*1+0;omega
theorem NA {T:TypeId} {x:Operand} {b:Nat} {E:TypeId} {p w q:List A5} {junk:List Value} {m:Int} (t:Nat) (h1:wY P T=true) (hx:e.ev x=some (.pointer (some ⟨b,p.length+m.toNat*1,none⟩)))
 (ht:H.get t=some (some b,Row E (p++(w++q)) junk)) (hm:0≤m∧m<w.length):Qy P (.load T x) ty e H G (.int .u32 (w[m.toNat]?.getD default).v):=by
 rw [FO hm.1] at hx;refine Yp (m:=(p.length:Int)+m) t 0 h1 hx ht ⟨by omega,by rw [aB,aB];omega⟩ U ?_;rw [SU hm];rfl
abbrev mA:=@NA
theorem SX {T:TypeId} {x y:Operand} {b:Nat} {E:TypeId} {p w q:List A5} {junk:List Value} {m n:Int} (t:Nat) (hs:(P.info? T).map (·.size)=some 1)
 (hx:e.ev x=some (.pointer (some ⟨b,p.length+m.toNat*1,none⟩))) (hy:e.ev y=some (.int .u32 n)) (ht:H.get t=some (some b,Row E (p++(w++q)) junk)) (hm:0≤m∧m<w.length)
 (h:Wl P ops rest B ⟨e,D,(t,some b,Row E (p++(w.set m.toNat ⟨n⟩++q)) junk) :: H,G⟩ K):Wl P ops (⟨none,.store T x y,ty,pos,after,none⟩ :: rest) B ⟨e,D,H,G⟩ K:=by
 rw [FO hm.1] at hx;refine FH (m:=(p.length:Int)+m) (z:=(⟨n⟩:A5)) t hs hx hy U ht ⟨by omega,by rw [aB,aB];omega⟩ ?_;rw [SW hm];exact h
abbrev qB:=@SX
theorem NB {T:TypeId} {x hi mx:Operand} {a:Option Addr} {n c E sz:Nat} {k k':IntKind} {m m':Int} (hT:tH P T E sz) (hx:e.ev x=some (.slice a n c)) (hh:e.ev hi=some (.int k m)) (hh':e.ev mx=some (.int k' m')) (h0:0≤m) (h1:m≤m') (h2:m'≤c) :
 Qy P (.slice T x none (some hi) (some mx)) ty e H G (.slice (C7 a m'.toNat 0 sz) m.toNat m'.toNat):=fun ac w _ _ _ _ hk=>by
 have hr:=run_sizeOf (P:=P) w hT.2;have hu:P.underlying T=some (.slice (P.elem T)):=by simp [Program.elem,hT.1]
 have he:P.elem T=E:=by simp [Program.elem,hT.1]
 have:=run_slice_hm (P:=P) (w:=w) T a n c hu k k' m m' h0 h1 h2;simp only [execOp,hk.eval hx,fU,lE,hk.eval hh,hk.eval hh',dA,pG (P:=P) (w:=w) T _ _ _ _ hu,this,he,hr,bK,dN,sliced,C7,nF]
end
section
variable {P:Program} {ops:Array Oper} {rest:List Oper} {B:Bs} {e:A9} {D:List Deferred} {H:Hp} {G:A3} {K:Act→World→Prop}
 {ty:TypeId} {pos:String} {after:Array Edge} {d:Nat} {α:Type} [A2 α]
theorem Zf {w:World} (hw:B3 H G w) {T T2 E:Nat} (hT:tH P T E (A2.sz α)) {t b:Nat} {ad:Option Addr} {c c2:Nat} {xs ys:List α} {junk:List Value}
 (ht:H.get t=some (some b,Row E xs junk)) (hsrc:F5 H G ad ys) (hle:ys.length≤xs.length) :
 ∃ w',(Builtin.copy_ #[T,T2] ty #[.slice (some ⟨b,0,none⟩) xs.length c,.slice ad ys.length c2]).run P w=.ok (.int .i64 (ys.length:Int)) w'∧E0 (·=b) w w'∧w'.heap[b]?=some (Row E (ys++xs.drop ys.length) junk):=by
 have hb:=hw.own t b _ ht;have hmin:Nat.min ys.length xs.length=ys.length:=cY hle;cases hq:P.info? E with
 | none=>have:=hT.2;simp [hq] at this
 | some i =>
   have hi:i.size=A2.sz α:=by have:=hT.2;simpa [hq] using this
   rcases hsrc w hw with ⟨rfl,rfl⟩ | ⟨src,rfl,hsr⟩
   · refine ⟨w,?_,mR _ _,by simpa using hb⟩;have hm0:Nat.min (0:Nat) xs.length=0:=Nat.zero_min _;simp [Builtin.copy_,cT hT.1,Builtin.lenOf,Builtin.firstCells,sizeOf,typeInfo,hq,storeCells,hm0,goInt]
   have hl:=run_loadCells_list (P:=P) w src (tN ys) hsr;have hfy:(tN ys).length=ys.length*A2.sz α:=tG ys;have hfx:(tN xs).length=xs.length*A2.sz α:=tG xs;have hmul:=mB (A2.sz α) hle;have hfit:0+0+(tN ys).length≤((tN xs++junk).toArray).size:=by
    rw [pK,aB];omega
   have hst:=run_storeCells_at P b 0 E (tN ys) 0 (tN xs++junk).toArray w hb hfit (fun v hv=>eK.1 (Yo ys) v hv);refine ⟨_,?_,Ba w b (((tN xs++junk).toArray.toList.take (0+0)++tN ys++(tN xs++junk).toArray.toList.drop (0+0+(tN ys).length)).toArray),?_⟩
   · rw [hfy] at hl;simp [Builtin.copy_,cT hT.1,Builtin.lenOf,Builtin.firstCells,sizeOf,typeInfo,hq,hi,hmin,hl,hst,goInt]
   rw [qT w b _ _ E _ hb];have hsplit:tN xs=tN (xs.take ys.length)++tN (xs.drop ys.length):=by rw [←wG,fQ]
   have htl:(tN (xs.take ys.length)).length=(tN ys).length:=by rw [tG,tG,bG,cY hle]
   unfold Row;rw [wG];simp only [iS,cR,bR,fV];rw [hsplit,aR,←htl,List.drop_left,aR]
theorem Pj {x y:Operand} {T T2 E b:Nat} {ad:Option Addr} {c c2:Nat} {xs ys:List α} {junk:List Value} (t:Nat) (hn:Nat.ble (d+1) B.n=true) (hT:tH P T E (A2.sz α))
 (hx:e.ev x=some (.slice (some ⟨b,0,none⟩) xs.length c)) (hy:e.ev y=some (.slice ad ys.length c2)) (ht:H.get t=some (some b,Row E xs junk)) (hsrc:F5 H G ad ys) (hle:ys.length≤xs.length)
 (h:Wl P ops rest B ⟨(d,.int .i64 (ys.length:Int)) :: e,D,(t,some b,Row E (ys++xs.drop ys.length) junk) :: H,G⟩ K) :
 Wl P ops (⟨some d,.call { callee:=.builtin .copy,args:=#[x,y],argTypes:=#[T,T2] },ty,pos,after,none⟩ :: rest) B ⟨e,D,H,G⟩ K:=by
 refine nS (v:=.int .i64 (ys.length:Int)) (x:=.value (.int .i64 (ys.length:Int))) ht (.inr ⟨U,d,U,hn⟩) (fun a w hh=>?_) h;obtain ⟨w',hrun,hu,hb⟩:=Zf (c:=c) (c2:=c2) (T2:=T2) (ty:=ty) hh.mem hT ht hsrc hle;refine ⟨w',?_,hu,hb⟩;simp only [execOp,resolve,invoke,builtin,dA,dN,bK,sJ,jA,mJ,hh.eval hx,hh.eval hy,hrun]
end
theorem NC {P:Program} {e:A9} {H:Hp} {G:A3} {ty t t':TypeId} {x y:Operand} {m n:Int} (hx:e.ev x=some (.int .u64 m)) (hy:e.ev y=some (.int .u64 n)) (h0:m<n∧0≤m∧n≤18446744073709551615):Qy P (.binOp .sub t x y t') ty e H G (.int .u64 (m - n+18446744073709551616)):=by
 have h:=Ix (P:=P) (H:=H) (G:=G) (ty:=ty) (t:=t) (t':=t') hx hy;have e1:IntKind.u64.wrap (m - n)=m - n+18446744073709551616:=by rw [nW];omega
 rw [e1] at h;exact h
abbrev qW:=@NC
theorem Pk {P:Program} {f:FuncId} {args:List Value} {G:A3} {u:Value} (h:∀ w,Calls P f args.toArray w fun e w'=>e=.returned u∧w'=w):Does P f args G [] (fun v G' Ho=>v=u∧G'=G∧Ho=[]):=
 fun w hw=>(h w).mono fun e w' he=>by
  obtain ⟨rfl,rfl⟩:=he;exact ⟨u,G,[],U,hw,bN G,mR _ _,fun b h1 h2=>absurd h2 h1,fun t b o ht=>by simp [Hp.get] at ht,U,U,U⟩
end Go.Sl
namespace Go.Proofs.YtkdelpdbjfpgmaaGreatDoor
open Go Go.Sl
def uJ (x y:Int):Int:=if x<y then -1 else if y<x then 1 else 0
theorem Jj {x y:Int} (h:x<y):uJ x y=-1:=aF h
theorem Ny {x y:Int} (h:y<x):uJ x y=1:=by unfold uJ;rw [aD (by omega),aF h]
theorem Wf {x y:Int} (h:x=y):uJ x y=0:=by unfold uJ;rw [aD (by omega),aD (by omega)]
theorem Pm {x y u v:Int} (h1:x<y↔u<v) (h2:y<x↔v<u):uJ x y=uJ u v:=by unfold uJ;simp only [h1,h2]
theorem xA {l m:List A5} (he:m=l.take m.length) (ht:E6 l m.length):sQ m=sQ l:=by rw [he];exact ht.val
theorem Eu {l m:List A5} (he:m=l.take m.length) (ht:E6 l m.length):E7 m:=by rw [he];exact ht.top
theorem wT {l m:List A5} (he:m=l.take m.length) (hd:A7 l):A7 m:=by rw [he];exact hd.take _
section
attribute [local irreducible] sQ pb uJ
theorem Np (G:A3) (a:Option Addr) (c:Nat) (l:List A5) (hl:Arr G a l) (hb:l.length≤1099511627776) (hc:l.length≤c) :
 Does Tryz.prog 181 [.slice a l.length c] G [] (fun v G' Ho=>∃ (b:Option Addr) (m:List A5),v=.slice b m.length m.length∧Arr G b m∧m=l.take m.length∧E6 l m.length∧m.length≤l.length∧G'=G∧Ho=[]):=by
 refine D0 Tryz.func181 Tryz.ntmps181 fun w=>?_;refine bI 14 [] ?_;refine gX (ι:=Nat) (fun n=>([(3,.int .i64 (n:Int)),(2,.slice none 0 0),(0,.slice a (List.length l) c)],[])) (fun n=>n≤l.length∧(∀ j,n≤j→j<l.length→(l[j]?.getD default).v=0)) (fun n=>n) (l.length) (⟨aH _,fun j h1 h2=>absurd h2 sN⟩) fun n=>fun hk=>?_;obtain ⟨hn,hz⟩:=hk;have done:(n=0∨(l[n - 1]?.getD default).v≠0)→∃ (b:Option Addr) (m:List A5),Value.slice (C7 a n 0 1) n n=.slice b m.length m.length∧Arr G b m∧m=l.take m.length∧E6 l m.length∧m.length≤l.length∧G=G∧([]:Hp)=[]:=fun ht=>by
  have e:(l.take n).length=n:=by rw [bG,cY hn]
  refine ⟨C7 a n 0 1,l.take n,by rw [e],Jg hl n,by rw [e],?_,by rw [e];exact hn,U,U⟩;rw [e];exact ⟨hn,hz,ht⟩
 refine aI 6 [] ?_;apply bX 7 8 15 U;intro hg1;refine aC 7 [] ?_;refine fR (α:=A5) T.sl123 ?_;refine aC 1 [] ?_;refine jC 0 T.one215 ?_;refine aC 3 [] ?_;exact dB 7 0;intro hg1;refine aC 7 [] ?_;exact dB 7 0;refine bB 2 [] ?_;refine cW (fun hc1=>?_) fun hc1=>?_;refine bE 9 [] ?_;rotate_left;refine aI 10 [] ?_;refine aQ (NB T.sl123 U U U sN sN sN) ?_;refine aS 4 [] ?_;refine cV ?_;rotate_left
 · refine cJ 3 U (show _=Value.int .i64 ((n - 1:Nat):Int) by congr 1;omega) ?_;refine cK (n - 1) ?_ ?_
   · refine ⟨by omega,fun j h1 h2=>?_⟩;rcases aK j n with h3 | h3
     · have e:j=((n:Int) - 1).toNat:=sN;rw [e];exact hc1.2
     exact hz j h3 h2
   omega
 refine done ?_;rcases gD n with h | h
 · exact .inl h
 refine .inr fun h2=>hc1 ⟨by omega,?_⟩;have e:((n:Int) - 1).toNat=n - 1:=sN;rw [e];exact h2
theorem Zg (G:A3) (a b:Option Addr) (ca cb:Nat) (la lb:List A5) (ha:Arr G a la) (hb:Arr G b lb) (da:A7 la) (db:A7 lb) (h1:la.length≤1073741824) (h2:lb.length≤1073741824) (h3:la.length≤ca) (h4:lb.length≤cb) :
 Does Tryz.prog 182 [.slice a la.length ca,.slice b lb.length cb] G [] (fun v G' Ho=>v=.int .i64 (uJ (sQ la) (sQ lb))∧G'=G∧Ho=[]):=by
 refine D0 Tryz.func182 Tryz.ntmps182 fun w=>?_;refine aI 8 [] ?_;refine bV 0 U (Np _ _ _ _ sO sN tY) fun v1 G1 Ho1 hle1 hp=>?_;obtain ⟨ta1,tm1,rfl,hta1,hte1,htr1,htl1,rfl,rfl⟩:=hp;refine aC 1 [] ?_;refine bV 0 U (Np _ _ _ _ sO sN tY) fun v2 G2 Ho2 hle2 hp=>?_;obtain ⟨ta2,tm2,rfl,hta2,hte2,htr2,htl2,rfl,rfl⟩:=hp;refine bB 16 [] ?_;refine cW (fun hc1=>?_) fun hc1=>?_;refine bE 8 [] ?_;refine cV ?_;rotate_left;refine bI 10 [] ?_;refine cW (fun hc2=>?_) fun hc2=>?_;refine bE 8 [] ?_;refine cV ?_;rotate_left;refine bI 13 [] ?_;rotate_left
 · rw [←xA hte1 htr1,←xA hte2 htr2];exact ⟨by rw [Jj (zS (wT hte1 da) (wT hte2 db) (Eu hte2 htr2) sN)],U,U⟩
 · rw [←xA hte1 htr1,←xA hte2 htr2];exact ⟨by rw [Ny (zS (wT hte2 db) (wT hte1 da) (Eu hte1 htr1) sN)],U,U⟩
 rw [←xA hte1 htr1,←xA hte2 htr2];have dma:=wT hte1 da;have dmb:=wT hte2 db;have l1:=htr1.1;have l2:=htr2.1;have hn:tm1.length=tm2.length:=sN;refine gX (ι:=Nat) (fun k=>([(5,.int .i64 ((k:Int) - 1)),(1,.slice ta2 (List.length tm2) (List.length tm2)),(0,.slice ta1 (List.length tm1) (List.length tm1))],[])) (fun k=>k≤tm1.length∧∀ j,k≤j→j<tm1.length→lg tm1 j=lg tm2 j) (fun k=>k) (tm1.length) (⟨aH _,fun j h1 h2=>absurd h2 sN⟩) fun k=>fun hk=>?_;obtain ⟨hk1,hz⟩:=hk;rcases gD k with rfl | hpos
 · refine bE 19 [0] ?_;refine cV ?_;have e:tm1=tm2:=by
    have:=Ph (k:=0) hn hz;simpa using this
   exact ⟨by rw [e,Wf rfl],U,U⟩
 have e1:(tm1[((k:Int) - 1).toNat]?.getD default).v=lg tm1 (k - 1):=by
  unfold lg;rw [show (((k:Nat):Int) - 1).toNat=((k - 1:Nat):Int).toNat by omega]
 have e2:(tm2[((k:Int) - 1).toNat]?.getD default).v=lg tm2 (k - 1):=by
  unfold lg;rw [show (((k:Nat):Int) - 1).toNat=((k - 1:Nat):Int).toNat by omega]
 have hz':∀ j,(k - 1)+1≤j→j<tm1.length→lg tm1 j=lg tm2 j:=fun j h1 h2=>hz j sN h2;refine bI 14 [1] ?_;refine dE [] [] T.mixed [[0],[1]] ?_;refine mL (α:=A5) 2 T.sl123 ?_;refine rC 3 [] 0 T.one215 ?_;refine dK [[4],[5]] ?_;refine mL (α:=A5) 6 T.sl123 ?_;refine rC 7 [] 0 T.one215 ?_;refine dK [[8],[9]] ?_;refine dG ?_;refine cN ?_;refine cW (fun hc3=>?_) fun hc3=>?_;refine bE 12 [] ?_;refine cV ?_;rotate_left;refine dJ ?_;refine dE [] [] T.mixed [[0],[1]] ?_;refine mL (α:=A5) 2 T.sl123 ?_;refine rC 3 [] 0 T.one215 ?_;refine dK [[4],[5]] ?_;refine mL (α:=A5) 6 T.sl123 ?_;refine rC 7 [] 0 T.one215 ?_;refine dK [[8],[9]] ?_;refine dG ?_;refine cN ?_;refine cW (fun hc4=>?_) fun hc4=>?_;refine bE 12 [] ?_;refine cV ?_;rotate_left;refine bE 9 [] ?_;rotate_left
 · exact ⟨by rw [Jj (Ze hn sN dma dmb hz' sN)],U,U⟩
 · exact ⟨by rw [Ny (Ze hn.symm sN dmb dma (fun j h1 h2=>(hz' j h1 sN).symm) sN)],U,U⟩
 refine cJ 5 U (show _=Value.int .i64 (((k - 1:Nat):Int) - 1) by congr 1;omega) ?_;refine cK (k - 1) ?_ ?_
 · refine ⟨by omega,fun j h1 h2=>?_⟩;rcases aK j k with h3 | h3
   · have e:j=k - 1:=sN;rw [e];omega
   exact hz j h3 h2
 omega
theorem XS (G:A3) (a:Option Addr) (c:Nat) (l:List A5) (hl:Arr G a l) (hb:l.length≤1073741824) (hc:l.length≤c) :
 Does Tryz.prog 185 [.slice a l.length c] G [] (fun v G' Ho=>∃ (b:Option Addr) (m:List A5),v=.slice b m.length m.length∧Arr G' b m∧m=l.take m.length∧E6 l m.length∧m.length≤l.length∧Ho=[]):=by
 refine D0 Tryz.func185 Tryz.ntmps185 fun w=>?_;refine aI 8 [] ?_;refine bV 0 U (Np _ _ _ _ sO sN tY) fun v1 G1 Ho1 hle1 hp=>?_;obtain ⟨ta1,tm1,rfl,hta1,hte1,htr1,htl1,rfl,rfl⟩:=hp;refine aL 7 [] ?_;refine gG (α:=A5) 0 U T.sl123 T.el215 U U sN sN fun b1=>?_;refine aL 7 [] ?_;refine Pj (α:=A5) 0 U T.sl123 U U U (lM sO) (by first | omega | (simp only [aB,bA,cE,aJ];omega)) ?_;refine aS 9 [] ?_;have e1:(List.replicate ((tm1.length:Nat):Int).toNat (default:A5)).length=tm1.length:=by rw [aJ,aE]
 refine gC 0 (Row 215 tm1 []) U (by rw [eX (by rw [e1];exact aH _),aY]) ?_;refine cJ 2 U (show _=Value.slice (some ⟨b1,0,none⟩) tm1.length tm1.length by rw [e1]) ?_;refine cX 0 U (fK (xs:=tm1) On) fun G9 hle9 hA=>?_;refine cV ?_;exact ⟨_,tm1,U,hA,hte1,htr1,htl1,U⟩
end
def D2 (G:A3) (v:Value) (z:Int) (n:Nat):Prop:=∃ (b:Option Addr) (m:List A5),v=.slice b m.length m.length∧Arr G b m∧A7 m∧E7 m∧sQ m=z∧m.length≤n
theorem D2.of {G:A3} {b:Option Addr} {l m:List A5} {z:Int} {n:Nat} (h:Arr G b m) (he:m=l.take m.length) (ht:E6 l m.length) (hd:A7 l) (hz:sQ l=z) (hn:m.length≤n):D2 G (.slice b m.length m.length) z n:=
 ⟨b,m,U,h,wT he hd,Eu he ht,(xA he ht).trans hz,hn⟩
abbrev oC:=@D2.of
section
attribute [local irreducible] sQ pb uJ
theorem fv (G:A3) (a b:Option Addr) (ca cb:Nat) (la lb:List A5) (ha:Arr G a la) (hb:Arr G b lb) (da:A7 la) (db:A7 lb) (h1:la.length≤1073741824) (h2:lb.length≤1073741824) :
 Does Tryz.prog 183 [.slice a la.length ca,.slice b lb.length cb] G [] (fun v G' Ho=>D2 G' v (sQ la+sQ lb) (max la.length lb.length+1)∧Ho=[]):=by
 refine D0 Tryz.func183 Tryz.ntmps183 fun w=>?_;refine bI 5 [] ?_;refine pI (ι:=Option Addr×Nat×List A5×(Option Addr×Nat×List A5)) (fun (xa,ka,l1,(xb,kb,l2))=>([(0,.slice xa l1.length ka),(1,.slice xb l2.length kb),(4,.slice none 0 0)],[])) (fun (xa,ka,l1,(xb,kb,l2))=>Arr G xa l1∧Arr G xb l2∧A7 l1∧A7 l2∧l2.length≤l1.length∧l1.length≤max la.length lb.length∧sQ l1+sQ l2=sQ la+sQ lb) ?_ fun ⟨xa,ka,l1,(xb,kb,l2)⟩=>fun (hk:Arr G xa l1∧Arr G xb l2∧A7 l1∧A7 l2∧l2.length≤l1.length∧l1.length≤max la.length lb.length∧sQ l1+sQ l2=sQ la+sQ lb)=>?_
 · by_cases hlt:la.length<lb.length
   · refine bE 16 [1] ?_;refine mM ((b,cb,lb,(a,ca,la))) ?_;exact ⟨hb,ha,db,da,by omega,by omega,rZ _ _⟩
   refine bE 11 [0] ?_;refine mM ((a,ca,la,(b,cb,lb))) ?_;exact ⟨ha,hb,da,db,by omega,by omega,U⟩
 obtain ⟨ha1,hb1,d1,d2,hl21,hl1,hsum⟩:=hk;clear ha hb;refine aI 5 [] ?_;refine gG (α:=A5) 0 U T.sl123 T.el215 U U sN sN fun b1=>?_;refine bB 17 [] ?_;obtain ⟨N,hN⟩:∃ N,N=l1.length+1:=⟨_,U⟩
 have hM:((l1.length:Int)+1).toNat=N:=sN;rw [hM];have hown:∀ r:List A5,r.length=N→A4 (some ⟨b1,0,none⟩) N r []:=fun r hr=>.inr ⟨b1,U,by rw [hr];rfl,by omega,by simp only [maxLen];omega⟩;refine iV 5 U (show _=Value.slice (some ⟨b1,0,none⟩) (List.replicate N (default:A5)).length N by rw [aJ]) ?_;refine gX (ι:=Nat×Int×List A5) (fun (i,cy,r)=>([(22,.int .i64 (i:Int)),(6,.int .u64 cy),(5,.slice (some ⟨b1,0,none⟩) r.length N),(21,.int .i64 (l1.length:Int)),(20,.slice xa (List.length l1) ka),(0,.slice xa (List.length l1) ka),(1,.slice xb (List.length l2) kb),(4,.slice none 0 0)],[(0,some b1,Row 215 r [])])) (fun (i,cy,r)=>i≤l1.length∧r.length=N∧A7 r∧0≤cy∧cy≤1∧sQ (l1.take i)+sQ (l2.take i)=sQ (r.take i)+pb i*cy) (fun (i,cy,r)=>l1.length - i) ((0,0,List.replicate N (default:A5))) (⟨aM _,aJ,nV N,by decide,by decide,by rw [bR,bR,bR,bS,fI,uD];rfl⟩) fun ⟨i,cy,r⟩=>fun hk=>?_;obtain ⟨hi,hrN,hdr,hc0,hc1,hv⟩:=hk;have hor:=hown r hrN;rcases aK i l1.length with hia | hia
 · have r1:0≤(l1[(i:Int).toNat]?.getD default).v∧(l1[(i:Int).toNat]?.getD default).v<4294967296:=Bz d1 hia;rcases aK i l2.length with hib | hib
   · have r2:0≤(l2[(i:Int).toNat]?.getD default).v∧(l2[(i:Int).toNat]?.getD default).v<4294967296:=Bz d2 hib;refine aI 14 [1] ?_;refine fR (α:=A5) T.sl123 ?_;refine jC 0 T.one215 ?_;refine aL 8 [] ?_;refine aQ (dI U T.u214 U sN) ?_;refine aQ (jD U U sN) ?_;refine aL 17 [1] ?_;refine fR (α:=A5) T.sl123 ?_;refine jC 0 T.one215 ?_;refine aQ (dI U T.u214 U sN) ?_;refine aQ (jD U U sN) ?_;refine aL 8 [] ?_;refine aQ (iQ U T.u215 U) ?_;refine iE (α:=A5) T.sl123 ?_;refine dC (z:=_) 0 T.size215 U U U sO sN U fun ho1=>?_;refine aL 4 [] ?_;refine aQ (gJ U U sN) ?_;refine aS 8 [] ?_;refine gC 0 (Row 215 (r.set i (⟨(cy+(l1[(i:Int).toNat]?.getD default).v+(l2[(i:Int).toNat]?.getD default).v) % 4294967296⟩:A5)) []) U Yd ?_;refine cJ 5 U (show _=Value.slice (some ⟨b1,0,none⟩) (r.set i (⟨(cy+(l1[(i:Int).toNat]?.getD default).v+(l2[(i:Int).toNat]?.getD default).v) % 4294967296⟩:A5)).length N by rw [aG]) ?_;refine cK ((i+1,(cy+(l1[(i:Int).toNat]?.getD default).v+(l2[(i:Int).toNat]?.getD default).v) / 4294967296,r.set i (⟨(cy+(l1[(i:Int).toNat]?.getD default).v+(l2[(i:Int).toNat]?.getD default).v) % 4294967296⟩:A5))) ?_ ?_
     · exact ⟨by omega,by rw [aG];exact hrN,uC hdr _ (Hb _),by omega,by omega,Jh sN hv U⟩
     show l1.length - (i+1)<l1.length - i;omega
   have z:=Et hib;refine aI 14 [1] ?_;refine fR (α:=A5) T.sl123 ?_;refine jC 0 T.one215 ?_;refine aL 8 [] ?_;refine aQ (dI U T.u214 U sN) ?_;refine aQ (jD U U sN) ?_;refine aL 20 [0] ?_;refine aQ (iQ U T.u215 U) ?_;refine iE (α:=A5) T.sl123 ?_;refine dC (z:=_) 0 T.size215 U U U sO sN U fun ho1=>?_;refine aL 4 [] ?_;refine aQ (gJ U U sN) ?_;refine aS 8 [] ?_;refine gC 0 (Row 215 (r.set i (⟨(cy+(l1[(i:Int).toNat]?.getD default).v) % 4294967296⟩:A5)) []) U Yd ?_;refine cJ 5 U (show _=Value.slice (some ⟨b1,0,none⟩) (r.set i (⟨(cy+(l1[(i:Int).toNat]?.getD default).v) % 4294967296⟩:A5)).length N by rw [aG]) ?_;refine cK ((i+1,(cy+(l1[(i:Int).toNat]?.getD default).v) / 4294967296,r.set i (⟨(cy+(l1[(i:Int).toNat]?.getD default).v) % 4294967296⟩:A5))) ?_ ?_
   · exact ⟨by omega,by rw [aG];exact hrN,uC hdr _ (Hb _),by omega,by omega,Jh sN hv (by rw [z,fI];rfl)⟩
   show l1.length - (i+1)<l1.length - i;omega
 have hii:i=l1.length:=sN;subst hii;refine aI 18 [0] ?_;refine aQ (kM U T.u215 U sN) ?_;refine iE (α:=A5) T.sl123 ?_;refine dC (z:=_) 0 T.size215 U U U sO sN U fun ho1=>?_;refine aL 5 [] ?_;have hd2:=uC hdr l1.length (s:=cy) sN;have hlen:(r.set l1.length (⟨cy⟩:A5)).length=N:=by rw [aG];exact hrN
 have hval:sQ (r.set l1.length (⟨cy⟩:A5))=sQ la+sQ lb:=by
  rw [tZ (aH _),tZ hl21] at hv;rw [←hsum,hv];have h3:=uF (r.set l1.length (⟨cy⟩:A5)) l1.length;rw [tZ sN,mN (aH _),Ht sN] at h3;exact h3
 refine oW 0 (Row 215 (r.set l1.length (⟨cy⟩:A5)) []) U Yd ?_;refine fO 56 U (show _=Value.slice (some ⟨b1,0,none⟩) (r.set l1.length (⟨cy⟩:A5)).length N by rw [aG]) ?_;refine fG 0 U (hown _ hlen) fun G9 hle9 hA=>?_;refine bV 1 U (Np _ _ _ _ sO sN tY) fun v1 G1 Ho1 hle1 hp=>?_;obtain ⟨ta1,tm1,rfl,hta1,hte1,htr1,htl1,rfl,rfl⟩:=hp;refine aS 4 [] ?_;refine cV ?_;exact ⟨oC hta1 hte1 htr1 hd2 hval sN,U⟩
end
section
attribute [local irreducible] sQ pb uJ
theorem ai (G:A3) (a b:Option Addr) (ca cb:Nat) (la lb:List A5) (ha:Arr G a la) (hb:Arr G b lb) (da:A7 la) (db:A7 lb) (h1:la.length≤1073741824) (h2:lb.length≤la.length) (h3:la.length≤ca) (h4:lb.length≤cb) (hle:sQ lb≤sQ la) :
 Does Tryz.prog 184 [.slice a la.length ca,.slice b lb.length cb] G [] (fun v G' Ho=>∃ r,v=.tuple #[r,.int .i64 0]∧D2 G' r (sQ la - sQ lb) la.length∧Ho=[]):=by
 have hcmp:0≤uJ (sQ la) (sQ lb):=by
  rcases Int.lt_or_eq_of_le hle with h | h
  · rw [Ny h];decide
  rw [Wf h.symm];decide
 refine D0 Tryz.func184 Tryz.ntmps184 fun w=>?_;refine aI 11 [] ?_;refine cI U (Zg _ _ _ _ _ _ _ sO sO sO sO sN sN sN sN) ?_;refine aL 10 [0] ?_;refine gG (α:=A5) 0 U T.sl123 T.el215 U U sN sN fun b1=>?_;refine bB 17 [] ?_;obtain ⟨N,hN⟩:∃ N,N=la.length:=⟨_,U⟩
 have hM:(la.length:Int).toNat=N:=sN;rw [hM];have hown:∀ r:List A5,r.length=N→A4 (some ⟨b1,0,none⟩) N r []:=fun r hr=>.inr ⟨b1,U,by rw [hr];rfl,by omega,by simp only [maxLen];omega⟩;refine iV 6 U (show _=Value.slice (some ⟨b1,0,none⟩) (List.replicate N (default:A5)).length N by rw [aJ]) ?_;refine gX (ι:=Nat×Int×List A5) (fun (i,cy,r)=>([(21,.int .i64 (i:Int)),(7,.int .u64 cy),(6,.slice (some ⟨b1,0,none⟩) r.length N),(20,.int .i64 (la.length:Int)),(19,.slice a (List.length la) ca),(5,.int .i64 0),(4,.slice none 0 0),(1,.slice b (List.length lb) cb)],[(0,some b1,Row 215 r [])])) (fun (i,cy,r)=>i≤la.length∧r.length=N∧A7 r∧0≤cy∧cy≤1∧sQ (la.take i) - sQ (lb.take i)=sQ (r.take i) - pb i*cy) (fun (i,cy,r)=>la.length - i) ((0,0,List.replicate N (default:A5))) (⟨aM _,aJ,nV N,by decide,by decide,by rw [bR,bR,bR,bS,kZ,uD];rfl⟩) fun ⟨i,cy,r⟩=>fun hk=>?_;obtain ⟨hi,hrN,hdr,hc0,hc1,hv⟩:=hk;have hor:=hown r hrN;rcases aK i la.length with hia | hia
 · have r1:0≤(la[(i:Int).toNat]?.getD default).v∧(la[(i:Int).toNat]?.getD default).v<4294967296:=Bz da hia;have e1:(la[(i:Int).toNat]?.getD default).v=lg la i:=rfl;rcases aK i lb.length with hib | hib
   · have r2:0≤(lb[(i:Int).toNat]?.getD default).v∧(lb[(i:Int).toNat]?.getD default).v<4294967296:=Bz db hib;have e2:(lb[(i:Int).toNat]?.getD default).v=lg lb i:=rfl;by_cases hlt:(la[((i:Nat):Int).toNat]?.getD default).v<cy+(lb[((i:Nat):Int).toNat]?.getD default).v
     · refine aI 14 [1] ?_;refine fR (α:=A5) T.sl123 ?_;refine jC 0 T.one215 ?_;refine aL 24 [1] ?_;refine fR (α:=A5) T.sl123 ?_;refine jC 0 T.one215 ?_;refine aQ (dI U T.u214 U sN) ?_;refine aQ (jD U U sN) ?_;refine aL 6 [] ?_;refine aQ (dI U T.u214 U sN) ?_;refine aC 1 [] ?_;refine aQ (qW U U sN) ?_;refine aL 8 [] ?_;refine aQ (iQ U T.u215 U) ?_;refine iE (α:=A5) T.sl123 ?_;refine dC (z:=_) 0 T.size215 U U U sO sN U fun ho1=>?_;refine aL 4 [] ?_;refine aQ (gJ U U sN) ?_;refine aQ (oT U U sN) ?_;refine aS 8 [] ?_;have es:((la[(i:Int).toNat]?.getD default).v - (cy+(lb[(i:Int).toNat]?.getD default).v)+18446744073709551616) % 4294967296=((la[(i:Int).toNat]?.getD default).v - (cy+(lb[(i:Int).toNat]?.getD default).v)+4294967296):=sN;have ec:((la[(i:Int).toNat]?.getD default).v - (cy+(lb[(i:Int).toNat]?.getD default).v)+18446744073709551616) / 4294967296 % 2=1:=sN;refine cJ 7 U (show _=Value.int .u64 1 by rw [ec]) ?_;refine gC 0 (Row 215 (r.set i (⟨((la[(i:Int).toNat]?.getD default).v - (cy+(lb[(i:Int).toNat]?.getD default).v)+4294967296)⟩:A5)) []) U FA ?_;refine cJ 6 U (show _=Value.slice (some ⟨b1,0,none⟩) (r.set i (⟨((la[(i:Int).toNat]?.getD default).v - (cy+(lb[(i:Int).toNat]?.getD default).v)+4294967296)⟩:A5)).length N by rw [aG]) ?_;refine cK ((i+1,1,r.set i (⟨((la[(i:Int).toNat]?.getD default).v - (cy+(lb[(i:Int).toNat]?.getD default).v)+4294967296)⟩:A5))) ?_ ?_
       · exact ⟨by omega,by rw [aG];exact hrN,uC hdr _ sN,by decide,by decide,Ji (cy':=1) sN hv (by rw [←e1,←e2];omega)⟩
       show la.length - (i+1)<la.length - i;omega
     refine aI 14 [1] ?_;refine fR (α:=A5) T.sl123 ?_;refine jC 0 T.one215 ?_;refine aL 24 [1] ?_;refine fR (α:=A5) T.sl123 ?_;refine jC 0 T.one215 ?_;refine aQ (dI U T.u214 U sN) ?_;refine aQ (jD U U sN) ?_;refine aL 6 [] ?_;refine aQ (dI U T.u214 U sN) ?_;refine aC 1 [] ?_;refine aQ (jU U U sN) ?_;refine aL 8 [] ?_;refine aQ (kM U T.u215 U sN) ?_;refine iE (α:=A5) T.sl123 ?_;refine dC (z:=_) 0 T.size215 U U U sO sN U fun ho1=>?_;refine aL 4 [] ?_;refine aQ (gJ U U sN) ?_;refine aQ (oT U U sN) ?_;refine aS 8 [] ?_;have es:((la[(i:Int).toNat]?.getD default).v - (cy+(lb[(i:Int).toNat]?.getD default).v))=((la[(i:Int).toNat]?.getD default).v - (cy+(lb[(i:Int).toNat]?.getD default).v)):=sN;have ec:((la[(i:Int).toNat]?.getD default).v - (cy+(lb[(i:Int).toNat]?.getD default).v)) / 4294967296 % 2=0:=sN;refine cJ 7 U (show _=Value.int .u64 0 by rw [ec]) ?_;refine gC 0 (Row 215 (r.set i (⟨((la[(i:Int).toNat]?.getD default).v - (cy+(lb[(i:Int).toNat]?.getD default).v))⟩:A5)) []) U FA ?_;refine cJ 6 U (show _=Value.slice (some ⟨b1,0,none⟩) (r.set i (⟨((la[(i:Int).toNat]?.getD default).v - (cy+(lb[(i:Int).toNat]?.getD default).v))⟩:A5)).length N by rw [aG]) ?_;refine cK ((i+1,0,r.set i (⟨((la[(i:Int).toNat]?.getD default).v - (cy+(lb[(i:Int).toNat]?.getD default).v))⟩:A5))) ?_ ?_
     · exact ⟨by omega,by rw [aG];exact hrN,uC hdr _ sN,by decide,by decide,Ji (cy':=0) sN hv (by rw [←e1,←e2];omega)⟩
     show la.length - (i+1)<la.length - i;omega
   have z:=Et hib;by_cases hlt:(la[((i:Nat):Int).toNat]?.getD default).v<cy
   · refine aI 14 [1] ?_;refine fR (α:=A5) T.sl123 ?_;refine jC 0 T.one215 ?_;refine aL 25 [0] ?_;refine aQ (dI U T.u214 U sN) ?_;refine aC 1 [] ?_;refine aQ (qW U U sN) ?_;refine aL 8 [] ?_;refine aQ (iQ U T.u215 U) ?_;refine iE (α:=A5) T.sl123 ?_;refine dC (z:=_) 0 T.size215 U U U sO sN U fun ho1=>?_;refine aL 4 [] ?_;refine aQ (gJ U U sN) ?_;refine aQ (oT U U sN) ?_;refine aS 8 [] ?_;have es:((la[(i:Int).toNat]?.getD default).v - (cy)+18446744073709551616) % 4294967296=((la[(i:Int).toNat]?.getD default).v - (cy)+4294967296):=sN;have ec:((la[(i:Int).toNat]?.getD default).v - (cy)+18446744073709551616) / 4294967296 % 2=1:=sN;refine cJ 7 U (show _=Value.int .u64 1 by rw [ec]) ?_;refine gC 0 (Row 215 (r.set i (⟨((la[(i:Int).toNat]?.getD default).v - (cy)+4294967296)⟩:A5)) []) U FA ?_;refine cJ 6 U (show _=Value.slice (some ⟨b1,0,none⟩) (r.set i (⟨((la[(i:Int).toNat]?.getD default).v - (cy)+4294967296)⟩:A5)).length N by rw [aG]) ?_;refine cK ((i+1,1,r.set i (⟨((la[(i:Int).toNat]?.getD default).v - (cy)+4294967296)⟩:A5))) ?_ ?_
     · exact ⟨by omega,by rw [aG];exact hrN,uC hdr _ sN,by decide,by decide,Ji (cy':=1) sN hv (by rw [←e1,z];omega)⟩
     show la.length - (i+1)<la.length - i;omega
   refine aI 14 [1] ?_;refine fR (α:=A5) T.sl123 ?_;refine jC 0 T.one215 ?_;refine aL 25 [0] ?_;refine aQ (dI U T.u214 U sN) ?_;refine aC 1 [] ?_;refine aQ (jU U U sN) ?_;refine aL 8 [] ?_;refine aQ (kM U T.u215 U sN) ?_;refine iE (α:=A5) T.sl123 ?_;refine dC (z:=_) 0 T.size215 U U U sO sN U fun ho1=>?_;refine aL 4 [] ?_;refine aQ (gJ U U sN) ?_;refine aQ (oT U U sN) ?_;refine aS 8 [] ?_;have es:((la[(i:Int).toNat]?.getD default).v - (cy))=((la[(i:Int).toNat]?.getD default).v - (cy)):=sN;have ec:((la[(i:Int).toNat]?.getD default).v - (cy)) / 4294967296 % 2=0:=sN;refine cJ 7 U (show _=Value.int .u64 0 by rw [ec]) ?_;refine gC 0 (Row 215 (r.set i (⟨((la[(i:Int).toNat]?.getD default).v - (cy))⟩:A5)) []) U FA ?_;refine cJ 6 U (show _=Value.slice (some ⟨b1,0,none⟩) (r.set i (⟨((la[(i:Int).toNat]?.getD default).v - (cy))⟩:A5)).length N by rw [aG]) ?_;refine cK ((i+1,0,r.set i (⟨((la[(i:Int).toNat]?.getD default).v - (cy))⟩:A5))) ?_ ?_
   · exact ⟨by omega,by rw [aG];exact hrN,uC hdr _ sN,by decide,by decide,Ji (cy':=0) sN hv (by rw [←e1,z];omega)⟩
   show la.length - (i+1)<la.length - i;omega
 have hii:i=la.length:=sN;subst hii;refine aI 15 [0] ?_;refine fG 0 U hor fun G9 hle9 hA=>?_;refine bV 1 U (Np _ _ _ _ sO sN tY) fun v1 G1 Ho1 hle1 hp=>?_;obtain ⟨ta1,tm1,rfl,hta1,hte1,htr1,htl1,rfl,rfl⟩:=hp;refine aS 5 [] ?_;refine gY ?_;exact ⟨_,U,oC hta1 hte1 htr1 hdr (SP U h2 hle sN hdr ⟨hc0,hc1⟩ hv) sN,U⟩
end
theorem Jk (n k:Nat):lg (List.replicate n (default:A5)) k=0:=by
 unfold lg;rw [aE,fS];split <;> rfl
section
attribute [local irreducible] sQ pb uJ
theorem fw (G:A3) (a b:Option Addr) (ca cb:Nat) (la lb:List A5) (ha:Arr G a la) (hb:Arr G b lb) (da:A7 la) (db:A7 lb) (h1:la.length≤536870912) (h2:lb.length≤536870912) :
 Does Tryz.prog 134 [.slice a la.length ca,.slice b lb.length cb] G [] (fun v G' Ho=>D2 G' v (sQ la*sQ lb) (la.length+lb.length)∧Ho=[]):=by
 refine D0 Tryz.func134 Tryz.ntmps134 fun w=>?_;refine aI 12 [] ?_;refine gG (α:=A5) 0 U T.sl123 T.el215 U U sN sN fun b1=>?_;refine bB 12 [] ?_;obtain ⟨N,hN⟩:∃ N,N=la.length+lb.length:=⟨_,U⟩
 have hM:((la.length:Int)+(lb.length:Int)).toNat=N:=sN;rw [hM];have hown:∀ r:List A5,r.length=N→A4 (some ⟨b1,0,none⟩) N r []:=fun r hr=>.inr ⟨b1,U,by rw [hr];rfl,by omega,by simp only [maxLen];omega⟩;refine iV 5 U (show _=Value.slice (some ⟨b1,0,none⟩) (List.replicate N (default:A5)).length N by rw [aJ]) ?_;refine gX (ι:=Nat×List A5) (fun (i,r)=>([(19,.int .i64 (i:Int)),(5,.slice (some ⟨b1,0,none⟩) r.length N),(18,.int .i64 (la.length:Int)),(17,.slice a (List.length la) ca),(4,.slice none 0 0),(1,.slice b (List.length lb) cb)],[(0,some b1,Row 215 r [])])) (fun (i,r)=>i≤la.length∧r.length=N∧A7 r∧sQ r=sQ (la.take i)*sQ lb∧∀ k,i+lb.length≤k→lg r k=0) (fun (i,r)=>la.length - i) ((0,List.replicate N (default:A5))) (⟨aM _,aJ,nV N,by rw [bR,uD,eN];exact Bg N,fun k _=>Jk N k⟩) fun ⟨i,r⟩=>fun hk=>?_;obtain ⟨hi,hrN,hdr,hv,hz⟩:=hk;rcases aK i la.length with hia | hia
 · have hxi:0≤(la[(i:Int).toNat]?.getD default).v∧(la[(i:Int).toNat]?.getD default).v<4294967296:=Bz da hia;refine aI 14 [1] ?_;refine fR (α:=A5) T.sl123 ?_;refine jC 0 T.one215 ?_;refine bB 18 [] ?_;refine gX (ι:=Nat×Int×List A5) (fun (j,c,s)=>([(26,.int .i64 (j:Int)),(8,.int .u64 c),(5,.slice (some ⟨b1,0,none⟩) s.length N),(17,.slice a la.length ca),(18,.int .i64 (la.length:Int)),(25,.int .i64 (lb.length:Int)),(24,.slice b (List.length lb) cb),(7,.int .u32 (Go.Sl.A5.v (Option.getD la[Int.toNat (↑i:Int)]? default))),(6,.int .i64 (↑i:Int)),(19,.int .i64 (↑i:Int)),(4,.slice none 0 0),(1,.slice b (List.length lb) cb)],[(0,some b1,Row 215 s [])])) (fun (j,c,s)=>0≤c∧c≤4294967295∧s.length=N∧A7 s∧sQ s+pb (i+j)*c=sQ (la.take i)*sQ lb+pb i*(lg la i*sQ (lb.take j))∧j≤lb.length∧∀ k,i+lb.length≤k→lg s k=0) (fun (j,c,s)=>lb.length - j) ((0,0,r)) (⟨by decide,by decide,hrN,hdr,by rw [bS,bR,uD,bS,bS,fI,fI];exact hv,aM _,hz⟩) fun ⟨j,c,s⟩=>fun hk=>?_;obtain ⟨hc0,hc1,hsN,hds,hvs,hjl,hzs⟩:=hk;have hos:=hown s hsN;have ekk:((i:Int)+(j:Int)).toNat=i+j:=sN;rcases aK j lb.length with hjb | hjb
   · have hyj:0≤(lb[(j:Int).toNat]?.getD default).v∧(lb[(j:Int).toNat]?.getD default).v<4294967296:=Bz db hjb;have hxy:=Dj hxi hyj;have hxy2:0≤(la[(i:Int).toNat]?.getD default).v*(lb[(j:Int).toNat]?.getD default).v∧(la[(i:Int).toNat]?.getD default).v*(lb[(j:Int).toNat]?.getD default).v≤18446744073709551615:=sN;have hsk:0≤(s[((i:Int)+(j:Int)).toNat]?.getD default).v∧(s[((i:Int)+(j:Int)).toNat]?.getD default).v<4294967296:=hds.at sN;refine aI 14 [1] ?_;refine fR (α:=A5) T.sl123 ?_;refine jC 0 T.one215 ?_;refine aL 8 [] ?_;refine aQ (dI U T.u214 U sN) ?_;refine aC 1 [] ?_;refine aQ (dI U T.u214 U sN) ?_;refine aQ (pT U U tY) ?_;refine aC 4 [] ?_;refine iE (α:=A5) T.sl123 ?_;refine nA 0 0 T.one215 ?_;refine aQ (dI U T.u214 U sN) ?_;refine aQ (jD U U sN) ?_;refine aQ (jD U U sN) ?_;refine aL 10 [] ?_;refine aQ (iQ U T.u215 U) ?_;refine iE (α:=A5) T.sl123 ?_;refine dC (z:=_) 0 T.size215 U U U sO sN U fun ho1=>?_;refine aL 4 [] ?_;refine aQ (gJ U U sN) ?_;refine aS 8 [] ?_;rw [ekk] at ⊢ hsk;refine cJ 5 U (show _=Value.slice (some ⟨b1,0,none⟩) (s.set (i+j) (⟨(c+((la[(i:Int).toNat]?.getD default).v*(lb[(j:Int).toNat]?.getD default).v+(s[i+j]?.getD default).v)) % 4294967296⟩:A5)).length N by rw [aG]) ?_;refine cK ((j+1,(c+((la[(i:Int).toNat]?.getD default).v*(lb[(j:Int).toNat]?.getD default).v+(s[i+j]?.getD default).v)) / 4294967296,s.set (i+j) (⟨(c+((la[(i:Int).toNat]?.getD default).v*(lb[(j:Int).toNat]?.getD default).v+(s[i+j]?.getD default).v)) % 4294967296⟩:A5))) ?_ ?_
     · exact ⟨by omega,by omega,by rw [aG];exact hsN,uC hds _ (Hb _),IN sN hvs (by simp only [lg,aE]),by omega,fun k hk=>by rw [zD sN];exact hzs k hk⟩
     show lb.length - (j+1)<lb.length - j;omega
   have hjj:j=lb.length:=sN;subst hjj;refine aI 19 [0] ?_;refine aQ (kM U T.u215 U sN) ?_;refine iE (α:=A5) T.sl123 ?_;refine dC (z:=_) 0 T.size215 U U U sO sN U fun ho1=>?_;refine aS 7 [] ?_;rw [ekk];refine cJ 5 U (show _=Value.slice (some ⟨b1,0,none⟩) (s.set (i+lb.length) (⟨c⟩:A5)).length N by rw [aG]) ?_;refine cK ((i+1,s.set (i+lb.length) (⟨c⟩:A5))) ?_ ?_
   · exact ⟨by omega,by rw [aG];exact hsN,uC hds _ sN,MP sN (hzs _ (aH _)) hvs,fun k hk=>by rw [zD sN];exact hzs k sN⟩
   show la.length - (i+1)<la.length - i;omega
 have hor:=hown r hrN;rw [tZ hia] at hv;refine aI 15 [0] ?_;refine fG 0 U hor fun G9 hle9 hA=>?_;refine bV 1 U (Np _ _ _ _ sO sN tY) fun v1 G1 Ho1 hle1 hp=>?_;obtain ⟨ta1,tm1,rfl,hta1,hte1,htr1,htl1,rfl,rfl⟩:=hp;refine aS 4 [] ?_;refine cV ?_;exact ⟨oC hta1 hte1 htr1 hdr hv sN,U⟩
theorem fx (G:A3) (a:Option Addr) (ca:Nat) (la:List A5) (B:Int) (ha:Arr G a la) (da:A7 la) (h1:la.length≤1073741824) (hB:0<B) (hB2:B<4294967296) :
 Does Tryz.prog 248 [.slice a la.length ca,.int .u32 B] G [] (fun v G' Ho=>∃ r q m,v=.tuple #[r,.int .u32 m,.int .i64 0]∧D2 G' r q la.length∧sQ la=q*B+m∧0≤m∧m<B∧Ho=[]):=by
 refine D0 Tryz.func248 Tryz.ntmps248 fun w=>?_;refine aI 21 [0] ?_;refine gG (α:=A5) 0 U T.sl123 T.el215 U U sN sN fun b1=>?_;refine bB 18 [] ?_;obtain ⟨N,hN⟩:∃ N,N=la.length:=⟨_,U⟩
 have hM:(la.length:Int).toNat=N:=sN;rw [hM];have hown:∀ r:List A5,r.length=N→A4 (some ⟨b1,0,none⟩) N r []:=fun r hr=>.inr ⟨b1,U,by rw [hr];rfl,by omega,by simp only [maxLen];omega⟩;refine iV 7 U (show _=Value.slice (some ⟨b1,0,none⟩) (List.replicate N (default:A5)).length N by rw [aJ]) ?_;refine gX (ι:=Nat×Int×List A5) (fun (k,r,q)=>([(9,.int .i64 ((k:Int) - 1)),(8,.int .u64 r),(7,.slice (some ⟨b1,0,none⟩) q.length N),(6,.int .i64 0),(5,.int .u32 0),(4,.slice none 0 0),(0,.slice a (List.length la) ca),(1,.int .u32 B)],[(0,some b1,Row 215 q [])])) (fun (k,r,q)=>k≤la.length∧q.length=N∧A7 q∧0≤r∧r<B∧sQ (la.drop k)=sQ (q.drop k)*B+r) (fun (k,r,q)=>k) ((la.length,0,List.replicate N (default:A5))) (⟨aH _,aJ,nV N,by decide,hB,by rw [eX (aH _),eX FB,uD,eN];rfl⟩) fun ⟨k,r,q⟩=>fun hk=>?_;obtain ⟨hk1,hqN,hdq,hr0,hr1,hv⟩:=hk;have hoq:=hown q hqN;rcases gD k with rfl | hpos
 · rw [nJ,nJ] at hv;refine aI 16 [0] ?_;refine fG 0 U hoq fun G9 hle9 hA=>?_;refine bV 1 U (Np _ _ _ _ sO sN tY) fun v1 G1 Ho1 hle1 hp=>?_;obtain ⟨ta1,tm1,rfl,hta1,hte1,htr1,htl1,rfl,rfl⟩:=hp;refine aC 1 [] ?_;refine aQ (kM U T.u215 U sN) ?_;refine aS 6 [] ?_;refine kQ ?_;exact ⟨_,_,_,U,oC hta1 hte1 htr1 hdq U sN,hv,hr0,hr1,U⟩
 obtain ⟨i,rfl⟩:∃ i,k=i+1:=⟨k - 1,by omega⟩
 have hai:=Bz da (show i<la.length by omega);have ei:(((i+1:Nat):Int) - 1).toNat=i:=sN;have eA:(la[(((i+1:Nat):Int) - 1).toNat]?.getD default).v=lg la i:=by unfold lg;rw [ei,aE]
 have hsl:=IP ⟨hr0,hr1⟩ hai;have hsl':0≤(r*4294967296+(la[(((i+1:Nat):Int) - 1).toNat]?.getD default).v) / B∧(r*4294967296+(la[(((i+1:Nat):Int) - 1).toNat]?.getD default).v) / B≤4294967295:=by
  rw [eA];exact ⟨hsl.1,by have:=hsl.2;omega⟩
 have hrm:0≤(r*4294967296+lg la i) % B∧(r*4294967296+lg la i) % B<B:=⟨lG _ sN,gE _ hB⟩
 refine aI 15 [1] ?_;refine aQ (rP U U sN) ?_;refine aC 2 [] ?_;refine fR (α:=A5) T.sl123 ?_;refine jC 0 T.one215 ?_;refine aQ (dI U T.u214 U sN) ?_;refine aQ (Jf U U sN sN) ?_;refine aL 9 [] ?_;refine aQ (dI U T.u214 U sN) ?_;refine aQ (Tp U U sN) ?_;refine aQ (kM U T.u215 U sN) ?_;refine iE (α:=A5) T.sl123 ?_;refine dC (z:=_) 0 T.size215 U U U sO sN U fun ho1=>?_;refine aL 5 [] ?_;refine aQ (dI U T.u214 U sN) ?_;refine aQ (nE U U sN) ?_;refine aS 9 [] ?_;rw [eA];refine cJ 9 U (show _=Value.int .i64 ((i:Int) - 1) by congr 1;omega) ?_;refine gC 0 (Row 215 (q.set i ⟨(r*4294967296+lg la i) / B⟩) []) U (by rw [ei]) ?_;refine cJ 7 U (show _=Value.slice (some ⟨b1,0,none⟩) (q.set i ⟨(r*4294967296+lg la i) / B⟩).length N by rw [aG]) ?_;refine cK ((i,(r*4294967296+lg la i) % B,q.set i ⟨(r*4294967296+lg la i) / B⟩)) ?_ ?_
 · exact ⟨by omega,by rw [aG];exact hqN,uC hdq _ hsl,hrm.1,hrm.2,Zd sN sN hv⟩
 show i<i+1;omega
end
theorem FP {r s:List A5} {i:Nat} (h:s.drop i=r.drop i):lg s i=lg r i:=by
 have e:s[i]?=r[i]?:=by
  have:=congrArg (·[0]?) h;simpa [iZ] using this
 unfold lg;rw [aE,e]
theorem xB {r s:List A5} {i:Nat} (h:s.drop i=r.drop i) (d:A5):(s.set i d).drop (i+1)=r.drop (i+1):=by
 rw [List.drop_set_of_lt sN,←oX,←oX,h]
section
attribute [local irreducible] sQ pb uJ
theorem fy (G:A3) (b:Nat) (p u q:List A5) (junk:List Value) (cw:Nat) (v:Option Addr) (cv:Nat) (lv:List A5) (t:Int) (hv:Arr G v lv) (du:A7 u) (dv:A7 lv) (h1:u.length≤1073741824) (h2:lv.length<u.length) (ht:0≤t∧t<4294967296) :
 Does Tryz.prog 269 [.slice (some ⟨b,p.length,none⟩) u.length cw,.slice v lv.length cv,.int .u64 t] G [(0,some b,Row 215 (p++(u++q)) junk)] (fun r G' Ho=>∃ (w:List A5) (o:Int),r=.bool (decide (0<o))∧Ho=[(0,some b,Row 215 (p++(w++q)) junk)]∧G'=G∧(o=0∨o=1)∧w.length=u.length∧A7 w∧sQ u - t*sQ lv=sQ w - pb u.length*o):=by
 refine D0 Tryz.func269 Tryz.ntmps269 fun w=>?_;refine bI 20 [] ?_;refine gX (ι:=Nat×Int×Int×List A5) (fun (i,c,o,w)=>([(13,.int .i64 (i:Int)),(7,.int .u64 c),(8,.int .u64 o),(12,.int .i64 (u.length:Int)),(6,.bool Bool.false),(0,.slice (some (Addr.mk b (List.length p) none)) (List.length u) cw),(1,.slice v (List.length lv) cv),(2,.int .u64 t)],[(0,some b,Row 215 (p++(w++q)) junk)])) (fun (i,c,o,w)=>i≤u.length∧w.length=u.length∧A7 w∧0≤c∧c<4294967296∧0≤o∧o≤1∧(lv.length<i→c=0)∧w.drop i=u.drop i∧sQ (u.take i) - t*sQ (lv.take i)=sQ (w.take i) - pb i*(o+c)) (fun (i,c,o,w)=>u.length - i) ((0,0,0,u)) (⟨aM _,U,du,by decide,by decide,by decide,by decide,fun _=>rfl,U,by rw [bR,bR,uD,bS,fI,bS]⟩) fun ⟨i,c,o,w⟩=>fun hk=>?_;obtain ⟨hi,hwn,hdw,hc0,hc1,ho0,ho1,hcz,hdrop,hval⟩:=hk;rcases aK i u.length with hia | hia
 · have hx:0≤(w[(i:Int).toNat]?.getD default).v∧(w[(i:Int).toNat]?.getD default).v<4294967296:=Bz hdw sN;have ex:(w[(i:Int).toNat]?.getD default).v=lg u i:=FP hdrop;rcases aK i lv.length with hib | hib
   · have hy:0≤(lv[(i:Int).toNat]?.getD default).v∧(lv[(i:Int).toNat]?.getD default).v<4294967296:=Bz dv hib;have hca:=DR ⟨hc0,hc1⟩ hy ht;have hm:0≤(lv[(i:Int).toNat]?.getD default).v*t∧(lv[(i:Int).toNat]?.getD default).v*t≤18446744073709551615:=sN;by_cases hlt:(w[((i:Nat):Int).toNat]?.getD default).v<(c+(lv[((i:Nat):Int).toNat]?.getD default).v*t) % 4294967296
     · refine aI 31 [1,1] ?_;refine fR (α:=A5) T.sl123 ?_;refine jC 0 T.one215 ?_;refine aQ (dI U T.u214 U sN) ?_;refine aC 1 [] ?_;refine aQ (pT U U tY) ?_;refine aQ (jD U U sN) ?_;refine aL 7 [] ?_;refine aQ (eC T.sl123 U U sN) ?_;refine aQ (mA 0 T.one215 U U sN) ?_;refine aQ (dI U T.u214 U sN) ?_;refine aC 1 [] ?_;refine aQ (pU U U sN) ?_;refine aQ (qW U U sN) ?_;refine aC 1 [] ?_;refine aQ (jU U U sN) ?_;refine aL 6 [] ?_;refine aQ (gJ U U sN) ?_;refine aL 8 [] ?_;refine aQ (iQ U T.u215 U) ?_;refine aQ (eC T.sl123 U U sN) ?_;refine qB 0 T.size215 U U U sN ?_;refine aL 4 [] ?_;refine aQ (gJ U U sN) ?_;refine aQ (oT U U sN) ?_;refine aS 8 [] ?_;have es:((w[(i:Int).toNat]?.getD default).v - (c+(lv[(i:Int).toNat]?.getD default).v*t) % 4294967296+18446744073709551616 - o) % 4294967296=((w[(i:Int).toNat]?.getD default).v - (c+(lv[(i:Int).toNat]?.getD default).v*t) % 4294967296 - o+4294967296*1):=sN;have ec:((w[(i:Int).toNat]?.getD default).v - (c+(lv[(i:Int).toNat]?.getD default).v*t) % 4294967296+18446744073709551616 - o) / 4294967296 % 2=1:=sN;refine cJ 8 U (show _=Value.int .u64 1 by rw [ec]) ?_;refine gC 0 (Row 215 (p++(w.set i (⟨((w[(i:Int).toNat]?.getD default).v - (c+(lv[(i:Int).toNat]?.getD default).v*t) % 4294967296 - o+4294967296*1)⟩:A5)++q)) junk) U Tb ?_;refine cK ((i+1,(c+(lv[(i:Int).toNat]?.getD default).v*t) / 4294967296,1,w.set i (⟨((w[(i:Int).toNat]?.getD default).v - (c+(lv[(i:Int).toNat]?.getD default).v*t) % 4294967296 - o+4294967296*1)⟩:A5))) ?_ ?_
       · exact ⟨by omega,by rw [aG];exact hwn,uC hdw _ sN,by omega,by omega,by decide,by decide,by omega,xB hdrop _,Aq (c':=(c+(lv[(i:Int).toNat]?.getD default).v*t)) (b:=o) (b':=1) sN hval (by rfl) (by rw [←ex])⟩
       show u.length - (i+1)<u.length - i;omega
     by_cases hlt2:(w[((i:Nat):Int).toNat]?.getD default).v - (c+(lv[((i:Nat):Int).toNat]?.getD default).v*t) % 4294967296<o
     · refine aI 31 [1,1] ?_;refine fR (α:=A5) T.sl123 ?_;refine jC 0 T.one215 ?_;refine aQ (dI U T.u214 U sN) ?_;refine aC 1 [] ?_;refine aQ (pT U U tY) ?_;refine aQ (jD U U sN) ?_;refine aL 7 [] ?_;refine aQ (eC T.sl123 U U sN) ?_;refine aQ (mA 0 T.one215 U U sN) ?_;refine aQ (dI U T.u214 U sN) ?_;refine aC 1 [] ?_;refine aQ (pU U U sN) ?_;refine aQ (jU U U sN) ?_;refine aC 1 [] ?_;refine aQ (qW U U sN) ?_;refine aL 6 [] ?_;refine aQ (gJ U U sN) ?_;refine aL 8 [] ?_;refine aQ (iQ U T.u215 U) ?_;refine aQ (eC T.sl123 U U sN) ?_;refine qB 0 T.size215 U U U sN ?_;refine aL 4 [] ?_;refine aQ (gJ U U sN) ?_;refine aQ (oT U U sN) ?_;refine aS 8 [] ?_;have es:((w[(i:Int).toNat]?.getD default).v - (c+(lv[(i:Int).toNat]?.getD default).v*t) % 4294967296 - o+18446744073709551616) % 4294967296=((w[(i:Int).toNat]?.getD default).v - (c+(lv[(i:Int).toNat]?.getD default).v*t) % 4294967296 - o+4294967296*1):=sN;have ec:((w[(i:Int).toNat]?.getD default).v - (c+(lv[(i:Int).toNat]?.getD default).v*t) % 4294967296 - o+18446744073709551616) / 4294967296 % 2=1:=sN;refine cJ 8 U (show _=Value.int .u64 1 by rw [ec]) ?_;refine gC 0 (Row 215 (p++(w.set i (⟨((w[(i:Int).toNat]?.getD default).v - (c+(lv[(i:Int).toNat]?.getD default).v*t) % 4294967296 - o+4294967296*1)⟩:A5)++q)) junk) U Tb ?_;refine cK ((i+1,(c+(lv[(i:Int).toNat]?.getD default).v*t) / 4294967296,1,w.set i (⟨((w[(i:Int).toNat]?.getD default).v - (c+(lv[(i:Int).toNat]?.getD default).v*t) % 4294967296 - o+4294967296*1)⟩:A5))) ?_ ?_
       · exact ⟨by omega,by rw [aG];exact hwn,uC hdw _ sN,by omega,by omega,by decide,by decide,by omega,xB hdrop _,Aq (c':=(c+(lv[(i:Int).toNat]?.getD default).v*t)) (b:=o) (b':=1) sN hval (by rfl) (by rw [←ex])⟩
       show u.length - (i+1)<u.length - i;omega
     refine aI 31 [1,1] ?_;refine fR (α:=A5) T.sl123 ?_;refine jC 0 T.one215 ?_;refine aQ (dI U T.u214 U sN) ?_;refine aC 1 [] ?_;refine aQ (pT U U tY) ?_;refine aQ (jD U U sN) ?_;refine aL 7 [] ?_;refine aQ (eC T.sl123 U U sN) ?_;refine aQ (mA 0 T.one215 U U sN) ?_;refine aQ (dI U T.u214 U sN) ?_;refine aC 1 [] ?_;refine aQ (pU U U sN) ?_;refine aQ (jU U U sN) ?_;refine aC 1 [] ?_;refine aQ (jU U U sN) ?_;refine aL 6 [] ?_;refine aQ (gJ U U sN) ?_;refine aL 8 [] ?_;refine aQ (kM U T.u215 U sN) ?_;refine aQ (eC T.sl123 U U sN) ?_;refine qB 0 T.size215 U U U sN ?_;refine aL 4 [] ?_;refine aQ (gJ U U sN) ?_;refine aQ (oT U U sN) ?_;refine aS 8 [] ?_;have es:((w[(i:Int).toNat]?.getD default).v - (c+(lv[(i:Int).toNat]?.getD default).v*t) % 4294967296 - o)=((w[(i:Int).toNat]?.getD default).v - (c+(lv[(i:Int).toNat]?.getD default).v*t) % 4294967296 - o+4294967296*0):=sN;have ec:((w[(i:Int).toNat]?.getD default).v - (c+(lv[(i:Int).toNat]?.getD default).v*t) % 4294967296 - o) / 4294967296 % 2=0:=sN;refine cJ 8 U (show _=Value.int .u64 0 by rw [ec]) ?_;refine gC 0 (Row 215 (p++(w.set i (⟨((w[(i:Int).toNat]?.getD default).v - (c+(lv[(i:Int).toNat]?.getD default).v*t) % 4294967296 - o+4294967296*0)⟩:A5)++q)) junk) U Tb ?_;refine cK ((i+1,(c+(lv[(i:Int).toNat]?.getD default).v*t) / 4294967296,0,w.set i (⟨((w[(i:Int).toNat]?.getD default).v - (c+(lv[(i:Int).toNat]?.getD default).v*t) % 4294967296 - o+4294967296*0)⟩:A5))) ?_ ?_
     · exact ⟨by omega,by rw [aG];exact hwn,uC hdw _ sN,by omega,by omega,by decide,by decide,by omega,xB hdrop _,Aq (c':=(c+(lv[(i:Int).toNat]?.getD default).v*t)) (b:=o) (b':=0) sN hval (by rfl) (by rw [←ex])⟩
     show u.length - (i+1)<u.length - i;omega
   have z:=Et hib;by_cases hlt:(w[((i:Nat):Int).toNat]?.getD default).v<(c) % 4294967296
   · refine aI 33 [1,0] ?_;refine aQ (eC T.sl123 U U sN) ?_;refine aQ (mA 0 T.one215 U U sN) ?_;refine aQ (dI U T.u214 U sN) ?_;refine aC 1 [] ?_;refine aQ (pU U U sN) ?_;refine aQ (qW U U sN) ?_;refine aC 1 [] ?_;refine aQ (jU U U sN) ?_;refine aL 6 [] ?_;refine aQ (gJ U U sN) ?_;refine aL 8 [] ?_;refine aQ (iQ U T.u215 U) ?_;refine aQ (eC T.sl123 U U sN) ?_;refine qB 0 T.size215 U U U sN ?_;refine aL 4 [] ?_;refine aQ (gJ U U sN) ?_;refine aQ (oT U U sN) ?_;refine aS 8 [] ?_;have es:((w[(i:Int).toNat]?.getD default).v - (c) % 4294967296+18446744073709551616 - o) % 4294967296=((w[(i:Int).toNat]?.getD default).v - (c) % 4294967296 - o+4294967296*1):=sN;have ec:((w[(i:Int).toNat]?.getD default).v - (c) % 4294967296+18446744073709551616 - o) / 4294967296 % 2=1:=sN;refine cJ 8 U (show _=Value.int .u64 1 by rw [ec]) ?_;refine gC 0 (Row 215 (p++(w.set i (⟨((w[(i:Int).toNat]?.getD default).v - (c) % 4294967296 - o+4294967296*1)⟩:A5)++q)) junk) U Tb ?_;refine cK ((i+1,(c) / 4294967296,1,w.set i (⟨((w[(i:Int).toNat]?.getD default).v - (c) % 4294967296 - o+4294967296*1)⟩:A5))) ?_ ?_
     · exact ⟨by omega,by rw [aG];exact hwn,uC hdw _ sN,by omega,by omega,by decide,by decide,by intro _;omega,xB hdrop _,Aq (c':=(c)) (b:=o) (b':=1) sN hval KY (by rw [←ex])⟩
     show u.length - (i+1)<u.length - i;omega
   by_cases hlt2:(w[((i:Nat):Int).toNat]?.getD default).v - (c) % 4294967296<o
   · refine aI 33 [1,0] ?_;refine aQ (eC T.sl123 U U sN) ?_;refine aQ (mA 0 T.one215 U U sN) ?_;refine aQ (dI U T.u214 U sN) ?_;refine aC 1 [] ?_;refine aQ (pU U U sN) ?_;refine aQ (jU U U sN) ?_;refine aC 1 [] ?_;refine aQ (qW U U sN) ?_;refine aL 6 [] ?_;refine aQ (gJ U U sN) ?_;refine aL 8 [] ?_;refine aQ (iQ U T.u215 U) ?_;refine aQ (eC T.sl123 U U sN) ?_;refine qB 0 T.size215 U U U sN ?_;refine aL 4 [] ?_;refine aQ (gJ U U sN) ?_;refine aQ (oT U U sN) ?_;refine aS 8 [] ?_;have es:((w[(i:Int).toNat]?.getD default).v - (c) % 4294967296 - o+18446744073709551616) % 4294967296=((w[(i:Int).toNat]?.getD default).v - (c) % 4294967296 - o+4294967296*1):=sN;have ec:((w[(i:Int).toNat]?.getD default).v - (c) % 4294967296 - o+18446744073709551616) / 4294967296 % 2=1:=sN;refine cJ 8 U (show _=Value.int .u64 1 by rw [ec]) ?_;refine gC 0 (Row 215 (p++(w.set i (⟨((w[(i:Int).toNat]?.getD default).v - (c) % 4294967296 - o+4294967296*1)⟩:A5)++q)) junk) U Tb ?_;refine cK ((i+1,(c) / 4294967296,1,w.set i (⟨((w[(i:Int).toNat]?.getD default).v - (c) % 4294967296 - o+4294967296*1)⟩:A5))) ?_ ?_
     · exact ⟨by omega,by rw [aG];exact hwn,uC hdw _ sN,by omega,by omega,by decide,by decide,by intro _;omega,xB hdrop _,Aq (c':=(c)) (b:=o) (b':=1) sN hval KY (by rw [←ex])⟩
     show u.length - (i+1)<u.length - i;omega
   refine aI 33 [1,0] ?_;refine aQ (eC T.sl123 U U sN) ?_;refine aQ (mA 0 T.one215 U U sN) ?_;refine aQ (dI U T.u214 U sN) ?_;refine aC 1 [] ?_;refine aQ (pU U U sN) ?_;refine aQ (jU U U sN) ?_;refine aC 1 [] ?_;refine aQ (jU U U sN) ?_;refine aL 6 [] ?_;refine aQ (gJ U U sN) ?_;refine aL 8 [] ?_;refine aQ (kM U T.u215 U sN) ?_;refine aQ (eC T.sl123 U U sN) ?_;refine qB 0 T.size215 U U U sN ?_;refine aL 4 [] ?_;refine aQ (gJ U U sN) ?_;refine aQ (oT U U sN) ?_;refine aS 8 [] ?_;have es:((w[(i:Int).toNat]?.getD default).v - (c) % 4294967296 - o)=((w[(i:Int).toNat]?.getD default).v - (c) % 4294967296 - o+4294967296*0):=sN;have ec:((w[(i:Int).toNat]?.getD default).v - (c) % 4294967296 - o) / 4294967296 % 2=0:=sN;refine cJ 8 U (show _=Value.int .u64 0 by rw [ec]) ?_;refine gC 0 (Row 215 (p++(w.set i (⟨((w[(i:Int).toNat]?.getD default).v - (c) % 4294967296 - o+4294967296*0)⟩:A5)++q)) junk) U Tb ?_;refine cK ((i+1,(c) / 4294967296,0,w.set i (⟨((w[(i:Int).toNat]?.getD default).v - (c) % 4294967296 - o+4294967296*0)⟩:A5))) ?_ ?_
   · exact ⟨by omega,by rw [aG];exact hwn,uC hdw _ sN,by omega,by omega,by decide,by decide,by intro _;omega,xB hdrop _,Aq (c':=(c)) (b:=o) (b':=0) sN hval KY (by rw [←ex])⟩
   show u.length - (i+1)<u.length - i;omega
 have hii:i=u.length:=sN;subst hii;have hc:=hcz sN;subst hc;refine bE 20 [0] ?_;refine nP [0] ?_;rw [tZ (aH _),tZ sN,tZ sN,fI] at hval;exact ⟨w,o,U,U,U,by omega,hwn,hdw,hval⟩
end
theorem ND {u v:List A5} {m:Nat} (hu:u.length=m+3) (hv:v.length=m+2) (du:A7 u) (dv:A7 v) (h:sQ u<4294967296*sQ v):lg u (m+2)*4294967296+lg u (m+1)<lg v (m+1)*4294967296+4294967296:=by
 have e1:=SR hu;have e2:=MV hv;have e3:=yR dv (show m≤v.length by omega);have e4:=yR du (show m≤u.length by omega);have a0:=vP dv m;have b0:=vP du m;have hp:=yQ m;generalize lg u (m+2)*4294967296+lg u (m+1)=high at *;generalize lg v (m+1)=v1 at *;generalize lg v m=v0 at *;generalize lg u m=u0 at *;refine Int.lt_of_mul_lt_mul_left (a:=pb m*4294967296) ?_ sN;have f1:=bU (show v0+4294967296*v1+1≤v1*4294967296+4294967296 by omega) (dQ hp);have f2:=kO (dQ hp) b0.1;rw [cU,gT] at f1;rw [cU,←cM] at e1;have f3:pb m*4294967296*(v1*4294967296+4294967296)=4294967296*(pb m*(v1*4294967296+4294967296)):=by rw [cG (pb m) 4294967296,cM]
 rw [f3];omega
section
attribute [local irreducible] sQ pb uJ
theorem gb (G:A3) (b:Nat) (p u q:List A5) (junk:List Value) (cw:Nat) (v:Option Addr) (cv:Nat) (lv:List A5) (m:Nat) (hv:Arr G v lv) (du:A7 u) (dv:A7 lv) (h1:u.length≤1073741824) (hu:u.length=m+3) (hl:lv.length=m+2) (htop:2147483648≤lg lv (m+1)) (hlt:sQ u<4294967296*sQ lv) :
 Does Tryz.prog 251 [.slice (some ⟨b,p.length,none⟩) u.length cw,.slice v lv.length cv] G [(0,some b,Row 215 (p++(u++q)) junk)] (fun r G' Ho=>∃ (w:List A5) (g:Int),r=.int .u32 g∧Ho=[(0,some b,Row 215 (p++(w++q)) junk)]∧G'=G∧0≤g∧g<4294967296∧w.length=u.length∧A7 w∧sQ w=sQ u - g*sQ lv∧sQ w<sQ lv):=by
 have hU2:=vP du (m+2);have hU1:=vP du (m+1);have hU0:=vP du m;have hV1:=vP dv (m+1);have hV0:=vP dv m;have eu2:(u[((lv.length:Nat):Int).toNat]?.getD default).v=lg u (m+2):=by unfold lg;rw [hl]
 have eu1:(u[(((lv.length:Nat):Int) - 1).toNat]?.getD default).v=lg u (m+1):=by unfold lg;rw [show (((lv.length:Nat):Int) - 1).toNat=((m+1:Nat):Int).toNat by omega]
 have eu0:(u[(((lv.length:Nat):Int) - 2).toNat]?.getD default).v=lg u m:=by unfold lg;rw [show (((lv.length:Nat):Int) - 2).toNat=(m:Int).toNat by omega]
 have ev1:(lv[(((lv.length:Nat):Int) - 1).toNat]?.getD default).v=lg lv (m+1):=by unfold lg;rw [show (((lv.length:Nat):Int) - 1).toNat=((m+1:Nat):Int).toNat by omega]
 have ev0:(lv[(((lv.length:Nat):Int) - 2).toNat]?.getD default).v=lg lv m:=by unfold lg;rw [show (((lv.length:Nat):Int) - 2).toNat=(m:Int).toNat by omega]
 refine D0 Tryz.func251 Tryz.ntmps251 fun w=>?_;have hp1:0<lg lv (m+1):=sN;obtain ⟨high,hhigh⟩:∃ high,high=lg u (m+2)*4294967296+lg u (m+1):=⟨_,U⟩
 obtain ⟨hk1,hk2,hk3,hk4,hk5⟩:=MW hu hl du dv hhigh hp1 U U;have hq:=Int.ediv_le_self (lg lv (m+1)) (show 0≤high by omega);have hVm:0<sQ lv:=by
  have:=MV hl;have h3:=yR dv (show m≤lv.length by omega);have h4:=Int.mul_pos (yQ m) (show 0<lg lv m+4294967296*lg lv (m+1) by omega);omega
 have hUp:sQ u<4294967296*sQ lv:=hlt;have hbrk:high<lg lv (m+1)*4294967296+4294967296:=hhigh▸ND hu hl du dv hlt;refine bI 5 [] ?_;refine mP ?_;refine bI 8 [] ?_;refine dE [0] [] T.mixed [[0],[1]] ?_;refine dW 2 [] U (eC T.sl123 U U sN) ?_;refine dW 3 [0] U (mA 0 T.one215 U U sN) ?_;refine dW 4 [] U (dI U T.u214 U sN) ?_;refine dW 5 [] U (rP U U sN) ?_;refine dK [[6],[7],[8]] ?_;refine dW 9 [] U (eC T.sl123 U U sN) ?_;refine dW 10 [0] U (mA 0 T.one215 U U sN) ?_;refine dW 11 [] U (dI U T.u214 U sN) ?_;refine dW 12 [] U (Jf U U sN sN) ?_;refine dK [[13]] ?_;refine dG ?_;refine cN ?_;refine pI (ι:=Int×Int) (fun (g,r)=>([(0,.slice (some ⟨b,p.length,none⟩) u.length cw),(1,.slice v lv.length cv),(5,.int .i64 (lv.length:Int)),(7,.int .u64 g),(8,.int .u64 r),(4,.int .u32 0)],[(0,some b,Row 215 (p++(u++q)) junk)])) (fun (g,r)=>g*lg lv (m+1)+r=high∧0≤g∧g≤18446744073709551615∧0≤r∧r<4294967296∧sQ u<(g+1)*sQ lv) ?_ fun ⟨g,r⟩=>fun (hk:g*lg lv (m+1)+r=high∧0≤g∧g≤18446744073709551615∧0≤r∧r<4294967296∧sQ u<(g+1)*sQ lv)=>?_
 · refine dE [0] [] T.mixed [[0],[1],[2],[3]] ?_;refine mL (α:=A5) 4 T.sl123 ?_;refine rC 5 [0] 0 T.one215 ?_;refine dW 6 [] U (dI U T.u214 U sN) ?_;refine dW 7 [] U (Tp U U sN) ?_;refine dK [[8],[9],[10],[11]] ?_;refine mL (α:=A5) 12 T.sl123 ?_;refine rC 13 [0] 0 T.one215 ?_;refine dW 14 [] U (dI U T.u214 U sN) ?_;refine dW 15 [] U (nE U U sN) ?_;refine dK [[16],[17]] ?_;refine dG ?_;refine cJ 7 U (show _=Value.int .u64 (high / lg lv (m+1)) by rw [eu2,eu1,ev1,hhigh]) ?_;refine cJ 8 U (show _=Value.int .u64 (high % lg lv (m+1)) by rw [eu2,eu1,ev1,hhigh]) ?_;refine mM ((high / lg lv (m+1),high % lg lv (m+1))) ?_;exact ⟨hk1,hk2,by omega,hk3,by omega,hk5⟩
 obtain ⟨hg1,hg2,hg3,hr1,hr2,hgu⟩:=hk;clear hk1 hk2 hk3 hk4 hk5 hq;refine bI 3 [] ?_;refine pI (ι:=Int) (fun gg=>([(0,.slice (some ⟨b,p.length,none⟩) u.length cw),(1,.slice v lv.length cv),(5,.int .i64 (lv.length:Int)),(7,.int .u64 gg),(4,.int .u32 0)],[(0,some b,Row 215 (p++(u++q)) junk)])) (fun gg=>0≤gg∧gg<4294967296∧sQ u<(gg+1)*sQ lv∧(gg - 1)*sQ lv≤sQ u) ?_ fun gg=>fun (hk:0≤gg∧gg<4294967296∧sQ u<(gg+1)*sQ lv∧(gg - 1)*sQ lv≤sQ u)=>?_
 · refine Wc.block ?_;refine gX (ι:=Int×Int) (fun (g,r)=>([(7,.int .u64 g),(8,.int .u64 r),(0,.slice (some (Addr.mk b (List.length p) none)) (List.length u) cw),(1,.slice v (List.length lv) cv),(5,.int .i64 (lv.length:Int)),(4,.int .u32 0)],[(0,some b,Row 215 (p++(u++q)) junk)])) (fun (g,r)=>g*lg lv (m+1)+r=high∧0≤g∧g≤18446744073709551615∧0≤r∧r<4294967296∧sQ u<(g+1)*sQ lv) (fun (g,r)=>(4294967296 - r).toNat) ((g,r)) (⟨hg1,hg2,hg3,hr1,hr2,hgu⟩) fun ⟨g,r⟩=>fun (hk:g*lg lv (m+1)+r=high∧0≤g∧g≤18446744073709551615∧0≤r∧r<4294967296∧sQ u<(g+1)*sQ lv)=>?_;clear hg1 hg2 hg3 hr1 hr2 hgu;obtain ⟨hg1,hg2,hg3,hr1,hr2,hgu⟩:=hk;have dec:4294967296≤g∨r*4294967296+lg u m<g*lg lv m→1≤g∧(g - 1)*lg lv (m+1)+(r+lg lv (m+1))=high∧sQ u<(g - 1+1)*sQ lv:=fun hd=>by
    have hg0:1≤g:=by
     rcases hd with hd | hd
     · omega
     rcases (show g=0∨1≤g by omega) with h | h
     · rw [h,eN] at hd;omega
     exact h
    refine ⟨hg0,by rw [kR,dP];omega,?_⟩;rw [show g - 1+1=g by omega];rcases hd with hd | hd
    · have:=iB hd (dQ hVm);omega
    exact XR hu hl du dv hhigh hg1 hg2 hd
   have brk:(g - 1)*lg lv (m+1)+(r+lg lv (m+1))=high→sQ u<(g - 1+1)*sQ lv→4294967296≤r+lg lv (m+1)→1≤g→0≤g - 1∧g - 1<4294967296∧sQ u<(g - 1+1)*sQ lv∧(g - 1 - 1)*sQ lv≤sQ u:=fun h h2 h3 h4=>by
    have hlt':=MU h h3 hp1 hbrk;have hm0:=Dj ⟨(show 0≤g - 1 by omega),hlt'⟩ hV0;exact ⟨by omega,hlt',h2,MX hu hl du dv hhigh h ⟨by omega,hlt'⟩ sN sN⟩
   by_cases hgb:g<4294967296
   · have hm0:=Dj ⟨hg2,hgb⟩ hV0;have hm:0≤g*(lv[(((lv.length:Nat):Int) - 2).toNat]?.getD default).v∧g*(lv[(((lv.length:Nat):Int) - 2).toNat]?.getD default).v≤18446744073709551615:=by rw [ev0];omega
     by_cases hcond:r*4294967296+lg u m<g*lg lv m
     · obtain ⟨hg0,hnx,hnu⟩:=dec (.inr hcond);have hcond':r*4294967296+(u[(((lv.length:Nat):Int) - 2).toNat]?.getD default).v<g*(lv[(((lv.length:Nat):Int) - 2).toNat]?.getD default).v:=by rw [eu0,ev0];exact hcond
       refine bI 2 [] ?_;refine dE [0] [] T.mixed [[0]] ?_;refine dW 1 [] U (gJ U U sN) ?_;refine dK [[2],[3]] ?_;refine Gm.no 45 U tY ?_;refine dK [[4],[5],[6],[7]] ?_;refine pO 8 [] U (iI (α:=A5) T.sl123 U U sO sN) ?_;refine pO 9 [0] U (bW T.one215 U (gB sO sN 0 U U)) ?_;refine pO 10 [] U (dI U T.u214 U sN) ?_;refine pO 11 [] U (pT U U tY) ?_;refine dK [[12]] ?_;refine pO 13 [] U (rP U U sN) ?_;refine dK [[14],[15],[16]] ?_;refine pO 17 [] U (eC T.sl123 U U sN) ?_;refine pO 18 [0] U (mA 0 T.one215 U U sN) ?_;refine pO 19 [] U (dI U T.u214 U sN) ?_;refine pO 20 [] U (Jf U U sN sN) ?_;refine dK [[21],[22]] ?_;refine dG ?_;refine lQ 8 [1] ?_;refine aQ (jU U U sN) ?_;refine aL 9 [] ?_;refine fR (α:=A5) T.sl123 ?_;refine jC 0 T.one215 ?_;refine aQ (dI U T.u214 U sN) ?_;refine aQ (jD U U sN) ?_;refine aL 6 [] ?_;refine aQ (gJ U U sN) ?_;refine bB 3 [] ?_;refine cW (fun hc1=>?_) fun hc1=>?_;refine bE 4 [] ?_;rotate_left;refine bE 2 [] ?_;rotate_left
       · refine cJ 7 U U ?_;refine mM (g - 1) ?_;exact brk hnx hnu (by rw [←ev1];omega) hg0
       refine cJ 8 U (show _=Value.int .u64 (r+lg lv (m+1)) by rw [ev1]) ?_;refine cK ((g - 1,r+lg lv (m+1))) ?_ ?_
       · exact ⟨hnx,by omega,by omega,by omega,by rw [←ev1];omega,hnu⟩
       show (4294967296 - (r+lg lv (m+1))).toNat<(4294967296 - r).toNat;omega
     have hcond':¬r*4294967296+(u[(((lv.length:Nat):Int) - 2).toNat]?.getD default).v<g*(lv[(((lv.length:Nat):Int) - 2).toNat]?.getD default).v:=by rw [eu0,ev0];exact hcond
     refine bI 2 [] ?_;refine dE [0] [] T.mixed [[0]] ?_;refine dW 1 [] U (gJ U U sN) ?_;refine dK [[2],[3]] ?_;refine Gm.no 45 U tY ?_;refine dK [[4],[5],[6],[7]] ?_;refine pO 8 [] U (iI (α:=A5) T.sl123 U U sO sN) ?_;refine pO 9 [0] U (bW T.one215 U (gB sO sN 0 U U)) ?_;refine pO 10 [] U (dI U T.u214 U sN) ?_;refine pO 11 [] U (pT U U tY) ?_;refine dK [[12]] ?_;refine pO 13 [] U (rP U U sN) ?_;refine dK [[14],[15],[16]] ?_;refine pO 17 [] U (eC T.sl123 U U sN) ?_;refine pO 18 [0] U (mA 0 T.one215 U U sN) ?_;refine pO 19 [] U (dI U T.u214 U sN) ?_;refine pO 20 [] U (Jf U U sN sN) ?_;refine dK [[21],[22]] ?_;refine dG ?_;refine eE 6 [0] ?_;refine mM (g) ?_;exact ⟨hg2,hgb,hgu,MX hu hl du dv hhigh hg1 ⟨hg2,hgb⟩ sN sN⟩
   obtain ⟨hg0,hnx,hnu⟩:=dec (.inl sN);refine bI 2 [] ?_;refine dE [0] [] T.mixed [[0]] ?_;refine dW 1 [] U (gJ U U sN) ?_;refine dK [[2],[3]] ?_;refine qI 45 U tY ?_;refine dK [[4],[5],[6],[7],[8],[9],[10],[11],[12],[13],[14],[15],[16],[17],[18],[19],[20],[21],[22]] ?_;refine dG ?_;refine lQ 8 [1] ?_;refine aQ (jU U U sN) ?_;refine aL 9 [] ?_;refine fR (α:=A5) T.sl123 ?_;refine jC 0 T.one215 ?_;refine aQ (dI U T.u214 U sN) ?_;refine aQ (jD U U sN) ?_;refine aL 6 [] ?_;refine aQ (gJ U U sN) ?_;refine bB 3 [] ?_;refine cW (fun hc1=>?_) fun hc1=>?_;refine bE 4 [] ?_;rotate_left;refine bE 2 [] ?_;rotate_left
   · refine cJ 7 U U ?_;refine mM (g - 1) ?_;exact brk hnx hnu (by rw [←ev1];omega) hg0
   refine cJ 8 U (show _=Value.int .u64 (r+lg lv (m+1)) by rw [ev1]) ?_;refine cK ((g - 1,r+lg lv (m+1))) ?_ ?_
   · exact ⟨hnx,by omega,by omega,by omega,by rw [←ev1];omega,hnu⟩
   show (4294967296 - (r+lg lv (m+1))).toNat<(4294967296 - r).toNat;omega
 clear hg1 hg2 hg3 hr1 hr2 hgu;obtain ⟨hg1,hg2,hg3,hg4⟩:=hk;refine aI 6 [] ?_;refine bV 0 U (fy _ b p u q junk cw v cv lv gg hv du dv h1 sN ⟨hg1,hg2⟩) fun r1 G1 Ho1 hle1 hp=>?_;obtain ⟨lw1,lo1,rfl,rfl,rfl,hlo1,hln1,hld1,hlv1⟩:=hp;have hfew:=wK hld1;have hnn:=uB hld1;rcases hlo1 with hlo1 | hlo1
 · subst hlo1;rw [bS,kZ] at hlv1;refine aQ (fP U) ?_;refine aL 6 [1] ?_;refine aQ (kM U T.u215 U sN) ?_;refine aS 5 [] ?_;refine jK ?_;refine nP [0] ?_;refine ⟨lw1,gg,U,U,U,hg1,hg2,hln1,hld1,hlv1.symm,?_⟩;rw [mC,dP] at hg3;omega
 subst hlo1;rw [gT,←hln1] at hlv1;have hover:sQ u<gg*sQ lv:=sN;have hgp:1≤gg:=by
  rcases (show gg=0∨1≤gg by omega) with h | h
  · rw [h,eN] at hover;have:=uB du;omega
  exact h
 refine aQ (fP U) ?_;refine aL 8 [0] ?_;refine aQ (jU U U sN) ?_;refine bB 17 [] ?_;refine gX (ι:=Nat×Int×List A5) (fun (i,c,z)=>([(89,.int .i64 (i:Int)),(9,.int .u64 c),(88,.int .i64 (u.length:Int)),(7,.int .u64 (gg - 1)),(0,.slice (some (Addr.mk b (List.length p) none)) (List.length u) cw),(1,.slice v (List.length lv) cv),(5,.int .i64 (lv.length:Int)),(4,.int .u32 0)],[(0,some b,Row 215 (p++(z++q)) junk)])) (fun (i,c,z)=>i≤lw1.length∧z.length=lw1.length∧A7 z∧0≤c∧c≤1∧z.drop i=lw1.drop i∧sQ (lw1.take i)+sQ (lv.take i)=sQ (z.take i)+pb i*c) (fun (i,c,z)=>lw1.length - i) ((0,0,lw1)) (⟨aM _,U,hld1,by decide,by decide,U,by rw [bR,bR,uD,bS]⟩) fun ⟨i,c,z⟩=>fun hk=>?_;obtain ⟨hi,hzn,hzd,hc0,hc1,hdrop,hval⟩:=hk;rcases aK i lw1.length with hia | hia
 · have hx:0≤(z[(i:Int).toNat]?.getD default).v∧(z[(i:Int).toNat]?.getD default).v<4294967296:=Bz hzd sN;have ex:(z[(i:Int).toNat]?.getD default).v=lg lw1 i:=FP hdrop;rcases aK i lv.length with hib | hib
   · have hy:0≤(lv[(i:Int).toNat]?.getD default).v∧(lv[(i:Int).toNat]?.getD default).v<4294967296:=Bz dv hib;refine aI 22 [1] ?_;refine aQ (eC T.sl123 U U sN) ?_;refine aQ (mA 0 T.one215 U U sN) ?_;refine aQ (dI U T.u214 U sN) ?_;refine aQ (jD U U sN) ?_;refine aL 16 [1] ?_;refine fR (α:=A5) T.sl123 ?_;refine jC 0 T.one215 ?_;refine aQ (dI U T.u214 U sN) ?_;refine aQ (jD U U sN) ?_;refine aL 8 [] ?_;refine aQ (iQ U T.u215 U) ?_;refine aQ (eC T.sl123 U U sN) ?_;refine qB 0 T.size215 U U U sN ?_;refine aL 4 [] ?_;refine aQ (gJ U U sN) ?_;refine aS 8 [] ?_;refine gC 0 (Row 215 (p++(z.set i (⟨(c+(z[(i:Int).toNat]?.getD default).v+(lv[(i:Int).toNat]?.getD default).v) % 4294967296⟩:A5)++q)) junk) U Yd ?_;refine cK ((i+1,(c+(z[(i:Int).toNat]?.getD default).v+(lv[(i:Int).toNat]?.getD default).v) / 4294967296,z.set i (⟨(c+(z[(i:Int).toNat]?.getD default).v+(lv[(i:Int).toNat]?.getD default).v) % 4294967296⟩:A5))) ?_ ?_
     · exact ⟨by omega,by rw [aG];exact hzn,uC hzd _ (Hb _),by omega,by omega,xB hdrop _,Jh sN hval (by rw [ex];rfl)⟩
     show lw1.length - (i+1)<lw1.length - i;omega
   have hz0:=Et hib;refine aI 22 [1] ?_;refine aQ (eC T.sl123 U U sN) ?_;refine aQ (mA 0 T.one215 U U sN) ?_;refine aQ (dI U T.u214 U sN) ?_;refine aQ (jD U U sN) ?_;refine aL 19 [0] ?_;refine aQ (iQ U T.u215 U) ?_;refine aQ (eC T.sl123 U U sN) ?_;refine qB 0 T.size215 U U U sN ?_;refine aL 4 [] ?_;refine aQ (gJ U U sN) ?_;refine aS 8 [] ?_;refine gC 0 (Row 215 (p++(z.set i (⟨(c+(z[(i:Int).toNat]?.getD default).v) % 4294967296⟩:A5)++q)) junk) U Yd ?_;refine cK ((i+1,(c+(z[(i:Int).toNat]?.getD default).v) / 4294967296,z.set i (⟨(c+(z[(i:Int).toNat]?.getD default).v) % 4294967296⟩:A5))) ?_ ?_
   · exact ⟨by omega,by rw [aG];exact hzn,uC hzd _ (Hb _),by omega,by omega,xB hdrop _,Jh sN hval (by rw [ex,hz0,fI])⟩
   show lw1.length - (i+1)<lw1.length - i;omega
 have hii:i=lw1.length:=sN;subst hii;have hvl:=wK dv;have hpl:=Tr (show lv.length≤lw1.length by omega);have hback:=MY (g:=gg) (u:=u) (n:=lw1.length) sN hg4 hover U hzn sN sN hzd ⟨hc0,hc1⟩ hval;refine aI 15 [0] ?_;refine aQ (kM U T.u215 U sN) ?_;refine aS 4 [] ?_;refine jK ?_;refine nP [0] ?_;refine ⟨z,gg - 1,U,U,U,by omega,by omega,by omega,hzd,hback,?_⟩;rw [kR,dP] at hback;omega
end
theorem zE {s:Nat} (hs:s≤32):∃ Q:Int,((2 ^ s:Nat):Int)*Q=4294967296∧0<Q∧0<((2 ^ s:Nat):Int):=by
 refine ⟨((2 ^ (32 - s):Nat):Int),?_,?_,?_⟩
 · rw [←jX,←oD,Nat.add_sub_cancel' hs];decide
 · have:0<2 ^ (32 - s):=pJ sY;omega
 have:0<2 ^ s:=pJ sY;omega
theorem IQ {X:Int} {s:Nat} (hs:s≤32) (hX:0≤X∧X<4294967296):(X*((2 ^ s:Nat):Int)) % 4294967296 % ((2 ^ s:Nat):Int)=0∧0≤X*((2 ^ s:Nat):Int) / 4294967296∧X*((2 ^ s:Nat):Int) / 4294967296<((2 ^ s:Nat):Int)∧0≤X*((2 ^ s:Nat):Int)∧X*((2 ^ s:Nat):Int)<18446744073709551616:=by
 obtain ⟨Q,h1,h2,h3⟩:=zE hs;generalize ((2 ^ s:Nat):Int)=P at *;have hn:=kO hX.1 (dQ h3);have hlt:=Int.mul_lt_mul_of_pos_right hX.2 h3;have hP:P≤4294967296:=by
  have:=bU (show 1≤Q by omega) (dQ h3);omega
 refine ⟨?_,oK hn sY,nR sY (by rw [cG P];exact hlt),hn,by omega⟩;rw [Int.emod_emod_of_dvd _ ⟨Q,h1.symm⟩];exact Int.mul_emod_left X P
theorem NE {la r:List A5} {i d:Nat} {P hi lo:Int} (hk:i+d+1<r.length) (hz:lg r (i+d+1)=0) (hv:sQ r=pb d*P*sQ (la.take i)) (hlo:lo=lg r (i+d)+lg la i*P % 4294967296) (hhi:hi=lg la i*P / 4294967296) :
 sQ ((r.set (i+d) ⟨lo⟩).set (i+d+1) ⟨hi⟩)=pb d*P*sQ (la.take (i+1)):=by
 rw [Cs _ _ _ (by rw [aG];exact hk),Cs r _ _ sN,zD sN,hz,uF,hv,hlo,hhi,xY,DM];have h1:=We (pb i*pb d) (lg la i*P);show pb d*P*sQ (la.take i)+pb i*pb d*(lg r (i+d)+lg la i*P % 4294967296 - lg r (i+d))+4294967296*(pb i*pb d)*(lg la i*P / 4294967296 - 0)=_;have e1:lg r (i+d)+lg la i*P % 4294967296 - lg r (i+d)=lg la i*P % 4294967296:=sN;have e2:pb d*P*(pb i*lg la i)=pb i*pb d*(lg la i*P):=by
  rw [cG (pb i) (pb d),cM,cM,cG (lg la i) P,gA P]
 rw [e1,kZ,cU,e2,←h1];omega
theorem Zh {A0 A1:Int} {s:Nat} (hs:s≤32) (h0:0≤A0∧A0<4294967296) (h1:0≤A1∧A1<4294967296):((2 ^ s:Nat):Int)*(((A1*4294967296+A0) / ((2 ^ s:Nat):Int)) % 4294967296)=4294967296*(A1 % ((2 ^ s:Nat):Int))+A0 - A0 % ((2 ^ s:Nat):Int):=by
 obtain ⟨Q,hQ,hQ0,hP⟩:=zE hs;generalize ((2 ^ s:Nat):Int)=P at *;have e0:=jR A0 P;have e1:=jR A1 P;have n0:=lG A0 (oV hP);have l0:=gE A0 hP;have n1:=lG A1 (oV hP);have l1:=gE A1 hP;have q0:=oK h0.1 (dQ hP);have q0':A0 / P<Q:=nR hP (by rw [cG];omega);generalize A0 % P=r0 at *;generalize A1 % P=r1 at *;generalize A0 / P=y0 at *;generalize A1 / P=y1 at *;have e2:A1*4294967296+A0=r0+P*(A1*Q+y0):=by
  rw [cU,gA P,hQ];omega
 have e3:(A1*4294967296+A0) / P=A1*Q+y0:=by
  rw [e2,Int.add_mul_ediv_left _ _ (oV hP),qG n0 l0,kY]
 have e4:A1*Q+y0=r1*Q+y0+4294967296*y1:=by
  rw [←e1,mC,←hQ,Int.mul_right_comm P Q y1,cM P y1 Q];omega
 have f1:=kO n1 (dQ hQ0);have f2:=iB (show r1+1≤P by omega) (dQ hQ0);rw [mC,dP,hQ] at f2;have e5:(A1*Q+y0) % 4294967296=r1*Q+y0:=by
  rw [e4,Int.add_mul_emod_self_left,rY sN sN]
 rw [e3,e5,cU,gA P r1 Q,hQ];omega
theorem Zi {m r:List A5} {i:Nat} {P out ρ:Int} (hi:i<r.length) (hv:P*sQ (r.take i)+ρ=sQ (m.take i)+pb i*(lg m i % P)) (ho:P*out=4294967296*(lg m (i+1) % P)+lg m i - lg m i % P) :
 P*sQ ((r.set i ⟨out⟩).take (i+1))+ρ=sQ (m.take (i+1))+pb (i+1)*(lg m (i+1) % P):=by
 rw [uF (r.set i _),uF m,Ht hi,mN (aH i),xY,cU,gA P,ho,kS,cU,gA (pb i) 4294967296,cM];omega
theorem SY {m r:List A5} {P:Int} (hP:0<P) (hn:r.length=m.length) (hv:P*sQ (r.take m.length)+lg m 0 % P=sQ (m.take m.length)+pb m.length*(lg m m.length % P)):sQ r=sQ m / P:=by
 rw [tZ sN,tZ (aH _),Et (aH _),Int.zero_emod,bS,fI] at hv;rw [←hv,rZ,Int.add_mul_ediv_left _ _ (oV hP),qG (lG _ (oV hP)) (gE _ hP),kY]
theorem NF {x y:Int} {s:Nat} (hs:s≤32) (hx:x<((2 ^ s:Nat):Int)) (h0:0≤x) (hy:0≤y∧y<4294967296) (hm:y % ((2 ^ s:Nat):Int)=0):0≤x+y∧x+y<4294967296:=by
 obtain ⟨Q,hQ,hQ0,hP⟩:=zE hs;generalize ((2 ^ s:Nat):Int)=P at *;refine ⟨by omega,?_⟩;have h1:=jR y P;rw [hm,kY] at h1;have h2:y / P<Q:=nR hP (by rw [cG];omega);have h3:=bU (show y / P+1≤Q by omega) (dQ hP);rw [cU,gT,hQ,h1] at h3;omega
section
attribute [local irreducible] sQ pb uJ
theorem aj (G:A3) (a:Option Addr) (ca:Nat) (la:List A5) (d s:Nat) (ha:Arr G a la) (da:A7 la) (h1:la.length≤1073741824) (hs:s<32) (hd:d≤1000) :
 Does Tryz.prog 250 [.slice a la.length ca,.int .i64 ((32*d+s:Nat):Int)] G [] (fun v G' Ho=>∃ r,v=.tuple #[r,.int .i64 0]∧D2 G' r (pb d*((2 ^ s:Nat):Int)*sQ la) (la.length+d+1)∧Ho=[]):=by
 refine D0 Tryz.func250 Tryz.ntmps250 fun w=>?_;have ed:((32*d+s:Nat):Int) / 32=(d:Int):=sN;have es:((32*d+s:Nat):Int) % 32=(s:Int):=sN;have hP:0<((2 ^ s:Nat):Int):=(zE sN).choose_spec.2.2;refine aI 31 [0,0] ?_;refine aQ (rH U U sN) ?_;refine aC 2 [] ?_;refine gG (α:=A5) 0 U T.sl123 T.el215 U U sN sN fun b1=>?_;refine aL 6 [] ?_;refine aQ (nE U U sN) ?_;refine bB 12 [] ?_;obtain ⟨N,hN⟩:∃ N,N=la.length+d+1:=⟨_,U⟩
 have hM:((la.length:Int)+((32*d+s:Nat):Int) / 32+1).toNat=N:=sN;rw [hM];have hown:∀ r:List A5,r.length=N→A4 (some ⟨b1,0,none⟩) N r []:=fun r hr=>.inr ⟨b1,U,by rw [hr];rfl,by omega,by simp only [maxLen];omega⟩;refine iV 6 U (show _=Value.slice (some ⟨b1,0,none⟩) (List.replicate N (default:A5)).length N by rw [aJ]) ?_;refine iV 7 U (show _=Value.int .i64 (s:Int) by rw [es]) ?_;refine gX (ι:=Nat×List A5) (fun (i,r)=>([(26,.int .i64 (i:Int)),(6,.slice (some ⟨b1,0,none⟩) r.length N),(7,.int .i64 (↑s:Int)),(25,.int .i64 (la.length:Int)),(24,.slice a (List.length la) ca),(5,.int .i64 0),(4,.slice none 0 0),(1,.int .i64 (↑(32*d+s):Int))],[(0,some b1,Row 215 r [])])) (fun (i,r)=>i≤la.length∧r.length=N∧A7 r∧sQ r=pb d*((2 ^ s:Nat):Int)*sQ (la.take i)∧lg r (i+d)<((2 ^ s:Nat):Int)∧∀ k,i+d<k→lg r k=0) (fun (i,r)=>la.length - i) ((0,List.replicate N (default:A5))) (⟨aM _,aJ,nV N,by rw [bR,uD,bS];exact Bg N,by rw [Jk];exact hP,fun k _=>Jk N k⟩) fun ⟨i,r⟩=>fun hk=>?_;obtain ⟨hi,hrN,hdr,hv,hlow,hz⟩:=hk;have hor:=hown r hrN;rcases aK i la.length with hia | hia
 · have hx:0≤(la[(i:Int).toNat]?.getD default).v∧(la[(i:Int).toNat]?.getD default).v<4294967296:=Bz da hia;have ekk:((i:Int)+((32*d+s:Nat):Int) / 32).toNat=i+d:=sN;have hpt:=IQ (s:=s) sN hx;refine aI 14 [1] ?_;refine fR (α:=A5) T.sl123 ?_;refine jC 0 T.one215 ?_;refine aL 7 [] ?_;refine aQ (dI U T.u214 U sN) ?_;refine aC 1 [] ?_;refine aQ (SO U U sN sN) ?_;refine aL 8 [] ?_;refine aQ (rH U U sN) ?_;refine aC 1 [] ?_;refine iE (α:=A5) T.sl123 ?_;refine nA 0 0 T.one215 ?_;refine aC 1 [] ?_;refine aQ (iQ U T.u215 U) ?_;refine aQ (sE U U) ?_;refine iE (α:=A5) T.sl123 ?_;refine dC (z:=_) 0 T.size215 U U U sO sN U fun ho1=>?_;refine aL 6 [] ?_;refine aQ (rH U U sN) ?_;refine aC 2 [] ?_;refine iE (α:=A5) T.sl123 ?_;obtain ⟨r1,hr1⟩:∃ r1,r1=r.set (i+d) (⟨lg r (i+d)+(la[(i:Int).toNat]?.getD default).v*((2 ^ s:Nat):Int) % 4294967296⟩:A5):=⟨_,U⟩
   have hk0:=vP hdr (i+d);have hlo:bits BinOp.or IntKind.u32 (r[((i:Int)+((32*d+s:Nat):Int) / 32).toNat]?.getD default).v ((la[(i:Int).toNat]?.getD default).v*((2 ^ s:Nat):Int) % 4294967296)=lg r (i+d)+(la[(i:Int).toNat]?.getD default).v*((2 ^ s:Nat):Int) % 4294967296:=by
    rw [ekk];exact Nb _ _ s ⟨hk0.1,hlow⟩ (Hb _) sN hpt.1
   have hr1N:r1.length=N:=by rw [hr1,aG];exact hrN
   have hsum:=NF (s:=s) sN hlow hk0.1 (Hb _) hpt.1;have hd1:A7 r1:=by rw [hr1];exact uC hdr _ hsum
   have hz1:lg r1 (i+d+1)=0:=by rw [hr1,zD sN];exact hz _ sN
   have hor1:=hown r1 hr1N;refine oW 0 (Row 215 r1 []) U ?_ ?_
   · show Row 215 (r.set ((i:Int)+((32*d+s:Nat):Int) / 32).toNat ⟨bits BinOp.or IntKind.u32 (r[((i:Int)+((32*d+s:Nat):Int) / 32).toNat]?.getD default).v ((la[(i:Int).toNat]?.getD default).v*((2 ^ s:Nat):Int) % 4294967296)⟩) []=_;rw [hlo,ekk,hr1]
   skip;refine aQ (fF (m:=(i:Int)+((32*d+s:Nat):Int) / 32+1) (c:=N) (xs:=r1) (junk:=[]) 0 0 T.one215 U U hor1 sN U U) ?_;refine aC 1 [] ?_;refine aQ (gJ U U sN) ?_;refine aQ (kM U T.u215 U sN) ?_;refine aQ (sE U U) ?_;refine iE (α:=A5) T.sl123 ?_;refine dC (z:=_) 0 T.size215 U U U sO sN U fun ho2=>?_;refine aS 7 [] ?_;have hhi:bits BinOp.or IntKind.u32 (r1[((i:Int)+((32*d+s:Nat):Int) / 32+1).toNat]?.getD default).v ((la[(i:Int).toNat]?.getD default).v*((2 ^ s:Nat):Int) / 4294967296)=(la[(i:Int).toNat]?.getD default).v*((2 ^ s:Nat):Int) / 4294967296:=by
    rw [show ((i:Int)+((32*d+s:Nat):Int) / 32+1).toNat=i+d+1 by omega,show (r1[i+d+1]?.getD default).v=0 by simpa only [lg,aE] using hz1,Nb 0 _ 0 sY sN sY (Int.emod_one _),kY]
   obtain ⟨r2,hr2⟩:∃ r2,r2=r1.set (i+d+1) (⟨(la[(i:Int).toNat]?.getD default).v*((2 ^ s:Nat):Int) / 4294967296⟩:A5):=⟨_,U⟩
   refine gC 0 (Row 215 r2 []) U ?_ ?_
   · show Row 215 (r1.set ((i:Int)+((32*d+s:Nat):Int) / 32+1).toNat ⟨bits BinOp.or IntKind.u32 (r1[((i:Int)+((32*d+s:Nat):Int) / 32+1).toNat]?.getD default).v ((la[(i:Int).toNat]?.getD default).v*((2 ^ s:Nat):Int) / 4294967296)⟩) []=_;rw [hhi,show ((i:Int)+((32*d+s:Nat):Int) / 32+1).toNat=i+d+1 by omega,hr2]
   have hr2N:r2.length=N:=by rw [hr2,aG];exact hr1N
   refine cJ 6 U (show _=Value.slice (some ⟨b1,0,none⟩) r2.length N by rw [hr2N,hrN]) ?_;have hlt32:=(zE (s:=s) sN)
   refine cK ((i+1,r2)) ?_ ?_
   · refine ⟨by omega,hr2N,by rw [hr2];exact uC hd1 _ ⟨hpt.2.1,by omega⟩,?_,?_,?_⟩
     · rw [hr2,hr1];exact NE sN (hz _ sN) hv U U
     · rw [show i+1+d=i+d+1 by omega,hr2,Ht sN];exact hpt.2.2.1
     intro k hk;rw [hr2,zD sN,hr1,zD sN];exact hz k sN
   show la.length - (i+1)<la.length - i;omega
 rw [tZ hia] at hv;refine aI 15 [0] ?_;refine fG 0 U hor fun G9 hle9 hA=>?_;refine bV 1 U (Np _ _ _ _ sO sN tY) fun v1 G1 Ho1 hle1 hp=>?_;obtain ⟨ta1,tm1,rfl,hta1,hte1,htr1,htl1,rfl,rfl⟩:=hp;refine aS 5 [] ?_;refine gY ?_;exact ⟨_,U,oC hta1 hte1 htr1 hdr hv sN,U⟩
theorem gd (G:A3) (a:Option Addr) (ca:Nat) (la:List A5) (s:Nat) (ha:Arr G a la) (da:A7 la) (h1:la.length≤1073741824) (hca:la.length≤ca) (hs:s<32) :
 Does Tryz.prog 252 [.slice a la.length ca,.int .i64 (s:Int)] G [] (fun v G' Ho=>∃ r,v=.tuple #[r,.int .i64 0]∧D2 G' r (sQ la / ((2 ^ s:Nat):Int)) la.length∧Ho=[]):=by
 refine D0 Tryz.func252 Tryz.ntmps252 fun w=>?_;have ed:(s:Int) / 32=0:=sN;have es:(s:Int) % 32=(s:Int):=sN;have hP:0<((2 ^ s:Nat):Int):=(zE sN).choose_spec.2.2;refine aI 19 [0] ?_;refine bV 0 U (Np _ _ _ _ sO sN tY) fun v1 G1 Ho1 hle1 hp=>?_;obtain ⟨ta1,tm1,rfl,hta1,hte1,htr1,htl1,rfl,rfl⟩:=hp;refine aL 7 [] ?_;refine aQ (rH U U sN) ?_;refine bB 5 [] ?_;refine cW (fun hc1=>?_) fun hc1=>?_;refine bE 8 [] ?_;refine gY ?_;rotate_left;refine aI 6 [] ?_;refine aQ (rH U U sN) ?_;refine aQ (FI T.sl123 U U sN sN) ?_;refine aL 6 [] ?_;refine aQ (nE U U sN) ?_;refine aL 7 [] ?_;refine gG (α:=A5) 0 U T.sl123 T.el215 U U sN sN fun b1=>?_;refine bB 12 [] ?_;rotate_left
 · have hz:tm1=[]:=dO sN;have hv0:sQ la=0:=by rw [←xA hte1 htr1,hz,uD]
   refine ⟨_,U,⟨none,[],U,kC _,A7.nil,E7.nil,?_,aM _⟩,U⟩;rw [hv0,Int.zero_ediv,uD]
 have dm:=wT hte1 da;have hta2:Arr G1 (C7 ta1 tm1.length 0 1) tm1:=by
  have h2:=Jg (c:=tm1.length) (sz:=1) hta1 tm1.length;rw [tZ (aH _)] at h2;exact h2
 obtain ⟨tb,htb⟩:∃ tb,tb=C7 ta1 tm1.length 0 1:=⟨_,U⟩
 rw [←htb] at hta2;obtain ⟨N,hN⟩:∃ N,N=tm1.length:=⟨_,U⟩
 have hM:(((tm1.length - ((s:Int) / 32).toNat:Nat):Int)).toNat=N:=sN;rw [hM];have hown:∀ r:List A5,r.length=N→A4 (some ⟨b1,0,none⟩) N r []:=fun r hr=>.inr ⟨b1,U,by rw [hr];rfl,by omega,by simp only [maxLen];omega⟩;refine iV 7 U (show _=Value.slice (some ⟨b1,0,none⟩) (List.replicate N (default:A5)).length N by rw [aJ]) ?_;refine iV 6 U (show _=Value.int .i64 (s:Int) by rw [es]) ?_;refine iV 0 U (show _=Value.slice tb tm1.length tm1.length by rw [ed,htb];rfl) ?_;refine iV 29 U (show _=Value.slice tb tm1.length tm1.length by rw [ed,htb];rfl) ?_;refine iV 30 U (show _=Value.int .i64 (tm1.length:Int) by rw [ed];rfl) ?_;refine gX (ι:=Nat×List A5) (fun (i,r)=>([(31,.int .i64 (i:Int)),(7,.slice (some ⟨b1,0,none⟩) r.length N),(30,.int .i64 (tm1.length:Int)),(29,.slice tb (List.length tm1) (List.length tm1)),(0,.slice tb (List.length tm1) (List.length tm1)),(6,.int .i64 (↑s:Int)),(5,.int .i64 0),(4,.slice none 0 0)],[(0,some b1,Row 215 r [])])) (fun (i,r)=>i≤tm1.length∧r.length=N∧A7 r∧((2 ^ s:Nat):Int)*sQ (r.take i)+lg tm1 0 % ((2 ^ s:Nat):Int)=sQ (tm1.take i)+pb i*(lg tm1 i % ((2 ^ s:Nat):Int))) (fun (i,r)=>tm1.length - i) ((0,List.replicate N (default:A5))) (⟨aM _,aJ,nV N,by rw [bR,bR,uD,bS,Nw,dP]⟩) fun ⟨i,r⟩=>fun hk=>?_;obtain ⟨hi,hrN,hdr,hv⟩:=hk;have hor:=hown r hrN;rcases aK i tm1.length with hia | hia
 · have hx:0≤(tm1[(i:Int).toNat]?.getD default).v∧(tm1[(i:Int).toNat]?.getD default).v<4294967296:=Bz dm hia;have ex:(tm1[(i:Int).toNat]?.getD default).v=lg tm1 i:=rfl;have ex1:(tm1[((i:Int)+1).toNat]?.getD default).v=lg tm1 (i+1):=by unfold lg;rw [show ((i:Int)+1).toNat=((i+1:Nat):Int).toNat by omega]
   have hy:0≤(tm1[((i:Int)+1).toNat]?.getD default).v∧(tm1[((i:Int)+1).toNat]?.getD default).v<4294967296:=by rw [ex1];exact vP dm _
   by_cases hib:i+1<tm1.length
   · refine aI 14 [1] ?_;refine fR (α:=A5) T.sl123 ?_;refine jC 0 T.one215 ?_;refine aL 7 [] ?_;refine aQ (dI U T.u214 U sN) ?_;refine aL 19 [1] ?_;refine fR (α:=A5) T.sl123 ?_;refine cD U (bW T.one215 U (gB sO sN 0 U U)) ?_;refine aQ (dI U T.u214 U sN) ?_;refine aQ (rP U U sN) ?_;refine aQ (IM U U sN sN) ?_;refine aL 8 [] ?_;refine aQ (FN U U sN sN) ?_;refine aQ (iQ U T.u215 U) ?_;refine cD U (dX (α:=A5) T.sl123 U U sO sN) ?_;refine dC (z:=_) 0 T.size215 U U U sO sN U fun ho1=>?_;refine aS 7 [] ?_;obtain ⟨out,hout⟩:∃ out,out=((tm1[((i:Int)+1).toNat]?.getD default).v*4294967296+(tm1[(i:Int).toNat]?.getD default).v) / ((2 ^ s:Nat):Int) % 4294967296:=⟨_,U⟩
     have hpart:((2 ^ s:Nat):Int)*out=4294967296*(lg tm1 (i+1) % ((2 ^ s:Nat):Int))+lg tm1 i - lg tm1 i % ((2 ^ s:Nat):Int):=by
      rw [hout,ex,ex1];exact Zh sN (vP dm i) (vP dm (i+1))
     refine gC 0 (Row 215 (r.set i (⟨out⟩:A5)) []) U (by rw [hout,aE]) ?_;refine cJ 7 U (show _=Value.slice (some ⟨b1,0,none⟩) (r.set i (⟨out⟩:A5)).length N by rw [aG]) ?_;refine cK ((i+1,r.set i (⟨out⟩:A5))) ?_ ?_
     · exact ⟨by omega,by rw [aG];exact hrN,uC hdr _ (by rw [hout];exact Hb _),Zi sN hv hpart⟩
     show tm1.length - (i+1)<tm1.length - i;omega
   have hz0:=Et (show tm1.length≤i+1 by omega);refine aI 14 [1] ?_;refine fR (α:=A5) T.sl123 ?_;refine jC 0 T.one215 ?_;refine aL 7 [] ?_;refine aQ (dI U T.u214 U sN) ?_;refine aL 21 [0] ?_;refine aQ (FN U U sN sN) ?_;refine aQ (iQ U T.u215 U) ?_;refine iE (α:=A5) T.sl123 ?_;refine dC (z:=_) 0 T.size215 U U U sO sN U fun ho1=>?_;refine aS 7 [] ?_;obtain ⟨out,hout⟩:∃ out,out=(tm1[(i:Int).toNat]?.getD default).v / ((2 ^ s:Nat):Int) % 4294967296:=⟨_,U⟩
   have hpart:((2 ^ s:Nat):Int)*out=4294967296*(lg tm1 (i+1) % ((2 ^ s:Nat):Int))+lg tm1 i - lg tm1 i % ((2 ^ s:Nat):Int):=by
    rw [hout,show (tm1[(i:Int).toNat]?.getD default).v=lg tm1 (i+1)*4294967296+lg tm1 i by rw [hz0,eN,kY];rfl];exact Zh sN (vP dm i) (vP dm (i+1))
   refine gC 0 (Row 215 (r.set i (⟨out⟩:A5)) []) U (by rw [hout,aE]) ?_;refine cJ 7 U (show _=Value.slice (some ⟨b1,0,none⟩) (r.set i (⟨out⟩:A5)).length N by rw [aG]) ?_;refine cK ((i+1,r.set i (⟨out⟩:A5))) ?_ ?_
   · exact ⟨by omega,by rw [aG];exact hrN,uC hdr _ (by rw [hout];exact Hb _),Zi sN hv hpart⟩
   show tm1.length - (i+1)<tm1.length - i;omega
 have hii:i=tm1.length:=sN;subst hii;have hval:=SY hP sN hv;refine aI 15 [0] ?_;refine fG 0 U hor fun G9 hle9 hA=>?_;refine bV 1 U (Np _ _ _ _ sO sN tY) fun v2 G2 Ho2 hle2 hp=>?_;obtain ⟨ta2,tm2,rfl,hta2,hte2,htr2,htl2,rfl,rfl⟩:=hp;refine aS 5 [] ?_;refine gY ?_;rw [xA hte1 htr1] at hval;exact ⟨_,U,oC hta2 hte2 htr2 hdr hval sN,U⟩
end
end Go.Proofs.YtkdelpdbjfpgmaaGreatDoor
namespace Go.Sl
open Go
section
variable {P:Program} {ops:Array Oper} {rest:List Oper} {B:Bs} {e:A9} {D:List Deferred} {H:Hp} {G:A3} {K:Act→World→Prop}
 {ty:TypeId} {pos:String} {after:Array Edge} {d:Nat} {α:Type} [A2 α]
theorem Ss {w:World} (hw:B3 H G w) {T E bytes:Nat} {zs:List Value} (hT:tH P T E (A2.sz α)) (hE:B8 P E (A2.sz α) bytes zs) {a ad:Option Addr} {c2:Nat} {xs ys:List α}
 (hA:F5 H G a xs) (hx0:0<xs.length) (hsrc:F5 H G ad ys) (hy0:0<ys.length) (hb:(xs.length+ys.length)*bytes≤140737488355328) (hl:xs.length+ys.length≤maxLen) :
 ∃ c' junk' w',(Builtin.append_ #[T,T] ty #[.slice a xs.length xs.length,.slice ad ys.length c2]).run P w=.ok (.slice (some ⟨w.heap.size,0,none⟩) (xs++ys).length c') w'∧A4 (some ⟨w.heap.size,0,none⟩) c' (xs++ys) junk'∧
  E0 (fun _=>False) w w'∧w'.heap.size=w.heap.size+1∧w'.heap[w.heap.size]?=some (Row E (xs++ys) junk'):=by
 obtain ⟨i,z,hi,hz1,hz2,hs,hby,hzl,hsz⟩:=hE;have hm63:xs.length+ys.length≤9223372036854775807:=by simp only [maxLen] at hl;omega
 have hlen:(xs++ys).length=xs.length+ys.length:=aB;have hyl:(tN ys).length=ys.length*i.size:=by rw [tG,hs]
 have hxl:(tN xs).length=xs.length*i.size:=by rw [tG,hs]
 have junkLen:∀ k,(Builtin.zeroCells z.cells k).toList.length=k*A2.sz α:=fun k=>by
  rw [oR,size_zeroCells,hz2];simp [hzl]
 have fresh:∀ old,old<xs.length+ys.length→∃ junk',A4 (some ⟨w.heap.size,0,none⟩) (grownCap w (xs.length+ys.length) old E) (xs++ys) junk'∧
  (w.drew.alloc (.cells ((tN xs).toArray++(tN ys).toArray++Builtin.zeroCells z.cells (grownCap w (xs.length+ys.length) old E - (xs.length+ys.length))) E)).heap[w.heap.size]?=some (Row E (xs++ys) junk'):=fun old hold=>by
  have hge:=grownCap_ge w (xs.length+ys.length) old E;have hcm:grownCap w (xs.length+ys.length) old E≤maxLen:=grownCap_le_maxLen w _ old E hl;refine ⟨(Builtin.zeroCells z.cells (grownCap w (xs.length+ys.length) old E - (xs.length+ys.length))).toList,.inr ⟨_,U,?_,by rw [hlen];exact hge,hcm⟩,?_⟩
  · rw [junkLen,hlen,←iX];congr 1;omega
  rw [show w.heap.size=w.drew.heap.size from rfl,Kt];congr 1;simp [Row,wG]
 have hupd:∀ o,E0 (fun _=>False) w (w.drew.alloc o):=fun o=>(mR _ w).drew.alloc o;rcases hA w hw with ⟨_,h0⟩ | ⟨ax,rfl,hcell⟩
 · rw [h0] at hx0;simp at hx0
 rcases hsrc w hw with ⟨_,h0⟩ | ⟨src,rfl,hsr⟩
 · rw [h0] at hy0;simp at hy0
 have hr:=run_append_grow (P:=P) w T ty E i z hT.1 hi hz1 ax xs.length xs.length (tN xs) hxl hcell src ys.length c2 (tN ys) hyl hsr sN sN (growslice_fits sN (by rw [hby];exact hb));obtain ⟨junk',h1,h2⟩:=fresh xs.length sN;exact ⟨_,junk',_,by rw [hlen];exact hr,h1,hupd _,by simp,h2⟩
theorem Jl {s x:Operand} {T E bytes:Nat} {zs:List Value} {a ad:Option Addr} {c2:Nat} {xs ys:List α} (t:Nat) (hn:Nat.ble (d+1) B.n=true) (hT:tH P T E (A2.sz α)) (hE:B8 P E (A2.sz α) bytes zs)
 (hs:e.ev s=some (.slice a xs.length xs.length)) (hx:e.ev x=some (.slice ad ys.length c2)) (hA:F5 H G a xs) (hx0:0<xs.length) (hsrc:F5 H G ad ys) (hy0:0<ys.length)
 (hb:(xs.length+ys.length)*bytes≤140737488355328) (hl:xs.length+ys.length≤maxLen)
 (h:∀ b c' junk',A4 (some ⟨b,0,none⟩) c' (xs++ys) junk'→Wl P ops rest B ⟨(d,.slice (some ⟨b,0,none⟩) (xs++ys).length c') :: e,D,(t,some b,Row E (xs++ys) junk') :: H,G⟩ K) :
 Wl P ops (⟨some d,.call { callee:=.builtin .append,args:=#[s,x],argTypes:=#[T,T] },ty,pos,after,none⟩ :: rest) B ⟨e,D,H,G⟩ K:=by
 intro ac w hh;obtain ⟨c',junk',w',hrun,ho',hu,hsz,hbk⟩:=Ss (c2:=c2) (ty:=ty) hh.mem hT hE hA hx0 hsrc hy0 hb hl;unfold tT;rw [aF (by simp [Region.wanted])];unfold Eb;have hex:(execOp ac.eval ⟨some d,.call { callee:=.builtin .append,args:=#[s,x],argTypes:=#[T,T] },ty,pos,after,none⟩).run P w=.ok (.value (.slice (some ⟨w.heap.size,0,none⟩) (xs++ys).length c')) w':=by
  simp only [execOp,resolve,invoke,builtin,dA,dN,bK,sJ,jA,mJ,hh.eval hs,hh.eval hx,hrun]
 rw [hex];exact h _ c' junk' ho' _ _ (A6.put (hh.ownNew t hu hsz hbk) hn _)
end
end Go.Sl
namespace Go.Proofs.YtkdelpdbjfpgmaaGreatDoor
open Go Go.Sl
theorem As {l:List A5} (h:A7 l) (k:Nat):A7 (l.drop k):=fun d hd=>h d (List.mem_of_mem_drop hd)
theorem Hc:∀ (f x:Nat),0<x→x<2 ^ f→1≤Lib.bitLenAux f x∧Lib.bitLenAux f x≤f∧2 ^ (Lib.bitLenAux f x - 1)≤x∧x<2 ^ Lib.bitLenAux f x
 | 0,x,h0,h1=>by simp at h1;omega
 | f+1,x,h0,h1=>by
   unfold Lib.bitLenAux;rw [aD (by omega)];by_cases h2:x / 2=0
   · have hx:x=1:=sN;subst hx;have:Lib.bitLenAux f (1 / 2)=0:=by cases f <;> simp [Lib.bitLenAux]
     rw [this];simp
   have ih:=Hc f (x / 2) sN (by rw [rS] at h1;omega);obtain ⟨a1,a2,a3,a4⟩:=ih;refine ⟨by omega,by omega,?_,?_⟩
   · rw [iK,←Nat.sub_add_cancel a1,rS];omega
   rw [Nat.add_comm 1,rS];omega
theorem IR {x:Int} (h0:0<x) (h1:x<4294967296):∃ s:Nat,s<32∧32 - (Lib.bitLen x.toNat:Int)=(s:Int)∧2147483648≤((2 ^ s:Nat):Int)*x∧((2 ^ s:Nat):Int)*(x+1)≤4294967296:=by
 have hb:=Hc 64 x.toNat sN (by have:(2:Nat) ^ 64=18446744073709551616:=sY;omega);have hle:=Lib.bitLen_le x.toNat 32 sN sN;unfold Lib.bitLen at hle ⊢;generalize Lib.bitLenAux 64 x.toNat=L at *;obtain ⟨b1,b2,b3,b4⟩:=hb;refine ⟨32 - L,by omega,by omega,?_,?_⟩
 · have e:2 ^ (32 - L)*2 ^ (L - 1)=2147483648:=by
    rw [←oD,show 32 - L+(L - 1)=31 by omega]
   have h2:=oN (2 ^ (32 - L)) b3;rw [e] at h2;have h3:((2 ^ (32 - L):Nat):Int)*x=((2 ^ (32 - L)*x.toNat:Nat):Int):=by rw [jX,cO sN]
   rw [h3];omega
 have e:2 ^ (32 - L)*2 ^ L=4294967296:=by
  rw [←oD,show 32 - L+L=32 by omega]
 have h2:=oN (2 ^ (32 - L)) (show x.toNat+1≤2 ^ L by omega);rw [e] at h2;have h3:((2 ^ (32 - L):Nat):Int)*(x+1)=((2 ^ (32 - L)*(x.toNat+1):Nat):Int):=by rw [jX,Int.natCast_add,cO sN];rfl
 rw [h3];omega
theorem NG {b v:List A5} {m:Nat} {P:Int} (hP:0<P) (hb:b.length=m+2) (db:A7 b) (dv:A7 v) (tv:E7 v) (hx:2147483648≤P*lg b (m+1)) (hx2:P*(lg b (m+1)+1)≤4294967296) (hv:sQ v=P*sQ b):v.length=m+2∧2147483648≤lg v (m+1):=by
 have e1:=uF b (m+1);rw [tZ (show b.length≤m+1+1 by omega)] at e1;have h1:=wK (db.take (m+1));have h2:=uB (db.take (m+1));rw [bG,cY sN] at h1;have hp:=yQ (m+1);have up:sQ v<pb (m+2):=by
  have f1:=Int.mul_lt_mul_of_pos_left (show sQ b<pb (m+1)*(lg b (m+1)+1) by rw [cU,gT];omega) hP;have f2:=bU hx2 (dQ hp);rw [hv,show m+2=m+1+1 by omega,xY,cG 4294967296];rw [gA P] at f1;omega
 have low:pb (m+1)*2147483648≤sQ v:=by
  have f1:=bU (show pb (m+1)*lg b (m+1)≤sQ b by omega) (dQ hP);have f2:=bU hx (dQ hp);rw [hv];rw [gA P] at f1;omega
 have l1:=Yz dv tv up;have l2:m+2≤v.length:=by
  rcases aK v.length (m+2) with h | h
  · have f1:=wK dv;have f2:=Tr (show v.length≤m+1 by omega);omega
  exact h
 have hl:v.length=m+2:=sN;refine ⟨hl,?_⟩;have e2:=uF v (m+1);rw [tZ (show v.length≤m+1+1 by omega)] at e2;have h3:=wK (dv.take (m+1));rw [bG,cY sN] at h3;rcases qF (lg v (m+1)) 2147483648 with h | h
 · have f1:=bU (show lg v (m+1)+1≤2147483648 by omega) (dQ hp);rw [cU,gT] at f1;omega
 exact h
theorem Zj {x y:Int} (h:uJ x y<0):x<y:=by
 unfold uJ at h;split at h
 · assumption
 split at h <;> omega
theorem NH (R:List A5) (i n:Nat):R=R.take i++((R.drop i).take n++R.drop (i+n)):=by
 rw [←oX,fQ,fQ]
theorem IS {u v:List A5} (du:A7 u) (dv:A7 v) (tv:E7 v) (h0:0<v.length) (hl:v.length≤u.length):sQ ((u++[(default:A5)]).drop (u.length+1 - v.length))<sQ v:=by
 rw [oF sN,uQ,Er];have h1:=wK (As du (u.length+1 - v.length));rw [gK,show u.length - (u.length+1 - v.length)=v.length - 1 by omega] at h1;have h2:=Nx dv tv (fun e=>by rw [e] at h0;simp at h0);show sQ (u.drop (u.length+1 - v.length))+pb _*0<_;rw [bS];omega
theorem NI {R v:List A5} {i n:Nat} (dR:A7 R) (dv:A7 v) (hi:i<R.length) (hn:v.length=n) (hl:i+(n+1)≤R.length) (h:sQ (R.drop (i+1))<sQ v) :
 sQ ((R.drop i).take (n+1))<4294967296*sQ v∧sQ (R.drop (i+(n+1)))=0:=by
 have e1:=wZ hi;have e2:=Bh (R.drop i) (show n+1≤(R.drop i).length by rw [gK];omega);rw [oX] at e2;have h1:=vP dR i;have h2:=wK dv;rw [hn] at h2;have h3:=uB (As dR (i+(n+1)));have h4:=uB ((As dR i).take (n+1));have h5:=uB (As dR (i+1));have hp:=yQ (n+1);have h6:sQ (R.drop (i+(n+1)))=0:=by
  rcases (show sQ (R.drop (i+(n+1)))=0∨1≤sQ (R.drop (i+(n+1))) by omega) with hz | hz
  · exact hz
  have f1:=bU hz (dQ hp);rw [gT] at f1;have f2:=xY n;omega
 refine ⟨?_,h6⟩;rw [h6,bS] at e2;omega
theorem SZ {a b q R P:Int} (hP:0<P) (h:P*a=q*(P*b)+R) (h0:0≤R) (h1:R<P*b):R / P=a % b∧q=a / b∧0<b:=by
 have e:R=P*(a - q*b):=by rw [kS,gA P q];omega
 have e1:R / P=a - q*b:=by rw [e,pN _ (oV hP)]
 have l0:0≤a - q*b:=by
  rw [e] at h0;exact Int.le_of_mul_le_mul_left (by rw [bS];exact h0) hP
 have l1:a - q*b<b:=by
  rw [e] at h1;exact Int.lt_of_mul_lt_mul_left h1 (dQ hP)
 have hb:0<b:=sN;have:=(rA (a:=a) (b:=b) (r:=a - q*b) (q:=q) hb).2 ⟨by rw [cG b q];omega,l0,l1⟩;exact ⟨e1.trans this.2.symm,this.1.symm,hb⟩
theorem Ev {G:A3} {v:Value} {z:Int} {n:Nat} {lb:List A5} (h:D2 G v z n) (db:A7 lb) (hz:z<sQ lb):D2 G v z lb.length:=by
 obtain ⟨b,m,h1,h2,h3,h4,h5,h6⟩:=h;refine ⟨b,m,h1,h2,h3,h4,h5,?_⟩;rcases aK lb.length m.length with h7 | h7
 · have:=zS db h3 h4 h7;omega
 exact h7
theorem gf (G:A3) (x:Int) (h0:0≤x) (h1:x≤4294967295):Does Tryz.prog 249 [.int .u32 x] G [] (fun v G' Ho=>v=.int .i64 (32 - (Lib.bitLen x.toNat:Int))∧G'=G∧Ho=[]):=
 Pk fun w=>Tryz.bits_LeadingZeros32 x w h0 h1
end Go.Proofs.YtkdelpdbjfpgmaaGreatDoor
end
