/- uJ of the proof (part 3): what the rows' text needs of the texts that lead to it. -/
import Derived.Test.YtfdcckcadfhpeaaGreatDoorMMb
set_option linter.unusedVariables false
set_option linter.unusedSimpArgs false
set_option linter.unusedSectionVars false
set_option maxHeartbeats 4000000
noncomputable section
set_option maxRecDepth 100000
namespace Go.Sl
open Go Go.ChangeShapes Go.WideShapes Go.RowKit
def Hs (W:I8):A2:=fun b=>W.heap[b]?
theorem jd (W:I8):B3 [] (Hs W) W:=
 ⟨fun t b o h=>by simp [Hp.get] at h,fun t t' b o o' h=>by simp [Hp.get] at h,fun b o h=>h,fun t b o h=>by simp [Hp.get] at h⟩
theorem MV {W W':I8} (h:D9 (Hp.has []) W W'):Go.RowKit.Below W.heap.size W W':=
 ⟨h.os,h.tape,h.output,h.size,fun k hk=>h.same k hk (fun ⟨t,o,hx⟩=>by simp [Hp.get] at hx)⟩
section
variable {H:Type} {enc:I9×Value→H} {P:I6}
theorem Ht (hl:laidOutB P=true) {W W':I8} {sp':Nat→Bool}:∀ {ts:List I9} {vs:List Value} {ds:List (DataW H)} {ps:List MemPlace},(ts.all fun t=>P.readableRec t && decide (t<P.types.size))=true→
 DataW.TrodAll enc P W 0 (fun _=>true) true ts vs ds ps→(∀ p∈ps,W.sameAt W' p)→(∀ p∈ps,sp' p.block=true)→DataW.TrodAll enc P W' 0 sp' true ts vs ds ps
 | [],_,_,_,_,h,_,_=>by
   obtain ⟨rfl,rfl,rfl⟩:=trodAll_nil h;exact trodAll_mk0
 | t :: ts,_,_,_,hr,h,hs,hp=>by
   obtain ⟨v,vs,d,ds,p,q,rfl,rfl,rfl,h1,h2⟩:=trodAll_cons h;simp only [jI,aF,aO] at hr;exact ⟨p,q,WideElems.Trod_stays hl hr.1.1 hr.1.2 h1 (fun x hx=>hs x (by simp [hx])) (fun x hx=>hp x (by simp [hx])),
    Ht hl hr.2 h2 (fun x hx=>hs x (by simp [hx])) (fun x hx=>hp x (by simp [hx])),U⟩
theorem Ob {w:I8} {base:Nat} {sp:Nat→Bool} {hd:Bool}:∀ {ts:List I9} {vs:List Value} {ds:List (DataW H)} {ps:List MemPlace},DataW.TrodAll enc P w base sp hd ts vs ds ps→ds.length=ts.length
 | [],_,_,_,h=>by obtain ⟨rfl,rfl,rfl⟩:=trodAll_nil h;rfl
 | t :: ts,_,_,_,h=>by
   obtain ⟨v,vs,d,ds,p,q,rfl,rfl,rfl,h1,h2⟩:=trodAll_cons h;simp [Ob h2]
theorem MW {f:Func} {n:FuncId} {s:ChangeSpec} {tb:I9} {apart fresh handsOn again:Bool} (hl:laidOutB P=true) (hr:(f.params.toList.all fun t=>P.readableRec t && decide (t<P.types.size))=true) (hres:f.resultTypes=#[tb]) (hb:P.underlying tb=some .bool)
 (hv:s.vars=[]) (hs:∀ ds:List (DataW H),ds.length=f.params.toList.length→s.fn H ds={ results:=[.lit (.bool true)],args:=ds }) {W:I8} {args:Array Value} {ds gs:List (DataW H)} {before:List MemPlace}
 (hW:DataW.Whole enc P f.params.toList s.vars apart W args.toList ds gs before) (hd:Does P n args.toList (Hs W) [] (fun v _ _=>v=.bool true)) :
 Calls P n args W fun e W'=>∃ v,e=.returned v∧s.post enc P f apart fresh handsOn again W args v W':=by
 refine (hd W (jd W)).mono fun e W' ⟨v,G',Ho,he,q1,q2,q3,q4,q5,hvv⟩=>⟨v,he,?_⟩
 subst hvv;have hbel:=MV q3;have hW':=hW;have hlt:=hW.lt;obtain ⟨p,q,hA,hV,rfl,hz,hn⟩:=hW;rw [hv] at hV;obtain ⟨rfl,rfl⟩:=trodVars_none hV;simp only [cK] at hW' hlt hz hn;have hlen:=Ob hA;have hspec:=hs ds hlen;have hres':∀ (b:Nat) (sp:Nat→Bool) (hd:Bool),DataW.TrodAll enc P W' b sp hd f.resultTypes.toList ((Value.bool true).resultList f.resultTypes.size) (s.fn H (ds++[])).results []:=fun b sp hd=>by
  rw [cK,hspec,hres];exact ⟨[],[],shut_bool hb _,trodAll_mk0,U⟩
 have hargs:∀ sp:Nat→Bool,(∀ x∈p,sp x.block=true)→DataW.TrodAll enc P W' 0 sp true f.params.toList args.toList (s.fn H (ds++[])).args p:=fun sp hsp=>by
  rw [cK,hspec];exact Ht hl hr hA (fun x hx=>hbel.same (hlt x hx)) hsp
 have hvars:∀ sp:Nat→Bool,DataW.TrodVars enc P W' sp s.vars (s.fn H (ds++[])).vars []:=fun sp=>by
  rw [cK,hspec,hv];exact U
 have hold:∀ x∈p,(fun b=>decide (b<W.heap.size)) x.block=true:=fun x hx=>by simpa using hlt x hx
 refine ⟨ds,[],p,[],p,[],by simpa using hW',hres' _ _ _,hargs _ hold,hvars _,World.keptBut_mono (fun x hx=>⟨hx,.inr (by simpa using hx)⟩) (hbel.frame _),fun _=>?_⟩;refine ⟨ok_one hres U (okWide_bool_mk hb _),_,_,([]++p)++[],⟨[]++p,[],trodAll_append (hargs _ (fun _ _=>rfl)) (hres' _ _ _),hvars _,U,?_,?_⟩,?_⟩
 · intro b off hp;have hp':MemPlace.cell b off∈p:=by simpa using hp
   rw [hbel.frozen (by exact hlt _ hp')];exact hz b off hp'
 · intro ha;simpa using hn ha
 intro x hx _;simpa using hx
end
theorem Rg {W:I8} {b o:Nat} {v:Value} (h:W.cell? ⟨b,o,none⟩=some v):(Hs W).cell b o=some v:=by
 unfold World.cell? at h;unfold A2.cell Hs;split at h
 · rename_i c t fz hb;rw [show W.heap[b]?=some (.cells c t fz) from hb];exact h
 cases h
theorem Wg {W:I8} {a:Addr} {v:Value} (h:W.cell? a=some v):a.spot=none:=by
 unfold World.cell? at h;split at h
 · cases hs:a.spot with
   | none=>rfl
   | some x=>simp [hs] at h
 cases h
theorem QW {a:Addr} {i:Nat} (h:(a.add i).spot=none) (ha:i=0∨True):a.add i=⟨a.block,a.off+i,none⟩:=by
 unfold Addr.add at h ⊢;split
 · rename_i h0;subst h0;rw [aE rfl] at h;cases a;simp_all
 rfl
section
variable {H:Type} {enc:I9×Value→H} {P:I6} {α:Type} [A0 α] [Inhabited α]
def Dec (enc:I9×Value→H) (P:I6) (W:I8) (E:I9) (Good:α→DataW H→Prop):Prop:=
 ∀ (n:Nat) (cs:List Value) (x:DataW H×List MemPlace),DataW.trod enc P W 0 (fun _=>true) true n E cs=some x→∃ y:α,cs=A0.enc y∧Good y x.1
theorem Zg {W:I8} {b o:Nat} {xs:List α} (h:∀ i,i<xs.length→∀ j,j<A0.sz α→W.cell? ⟨b,o+(i*A0.sz α+j),none⟩=(A0.enc (xs[i]?.getD default))[j]?) (h0:0<A0.sz α):(Hs W).row b o (uD xs):=by
 intro q v hq;have hlt:q<(uD xs).length:=(aW.1 hq).1;rw [uA] at hlt;have h1:q=(q / A0.sz α)*A0.sz α+q % A0.sz α:=by rw [rX];exact (mB q _).symm
 have h2:q % A0.sz α<A0.sz α:=pT _ h0;have h3:q / A0.sz α<xs.length:=(Nat.div_lt_iff_lt_mul h0).2 hlt;have h4:=Fp xs _ _ h3 h2;rw [←h1,hq] at h4;have h5:=h _ h3 _ h2;rw [←h1,←h4] at h5;exact Rg h5
theorem QX {W:I8} {T E:I9} {Good:α→DataW H→Prop} {fuel:Nat} {cs:List Value} {x:DataW H×List MemPlace} (ht:P.underlying T=some (.slice E)) (hsz:P.cellsOf E=A0.sz α) (h0:0<A0.sz α)
 (dec:Dec (α:=α) enc P W E Good) (h:DataW.trod enc P W 0 (fun _=>true) true fuel T cs=some x) :
 ∃ (a:J0 Addr) (cap:Nat) (xs:List α),cs=[.slice a xs.length cap]∧Arr (Hs W) a xs∧xs.length≤cap∧
  ((x.1=.nil∧xs=[])∨∃ l r,x.1=.slice l r∧l.length=xs.length∧∀ i,i<xs.length→∃ d,l[i]?=some d∧Good (xs[i]?.getD default) d):=by
 rcases Deep.open_slice ht h with ⟨rfl,rfl⟩ | ⟨a,len,cap,m,n,D,Pl,rfl,hb,hlc,hm,hmm,rfl,hx⟩
 · exact ⟨none,0,[],U,fG _,aH _,.inl ⟨U,U⟩⟩
 have hml:m=cap:=by rw [hmm];simp
 have hel:∀ i,i<len→∃ y:α,W.cells? 0 (a.add (i*A0.sz α)) (A0.sz α)=some (A0.enc y)∧Good y (D i):=fun i hi=>by
  obtain ⟨cs',h1,h2⟩:=hx i sU;obtain ⟨y,rfl,hg⟩:=dec _ _ _ h2;rw [hsz] at h1;exact ⟨y,h1,hg⟩
 obtain ⟨Y,hY⟩:=Deep.choose_lt hel;have hlen:((List.range len).map Y).length=len:=tW;have hget:∀ i,i<len→((List.range len).map Y)[i]?.getD default=Y i:=fun i hi=>by simp [hi]
 refine ⟨some a,cap,(List.range len).map Y,by rw [hlen],⟨uA _,?_⟩,by rw [hlen];exact hlc,.inr ⟨_,_,U,by simp,fun i hi=>?_⟩⟩
 · rw [hlen];rcases fQ len with h00 | hpos
   · exact .inl h00
   refine .inr ⟨a.block,a.off,?_,?_⟩
   · have h1:=(World.cells?_some (hY 0 hpos).1).2.2 0 h0;rw [oC] at h1;have h2:∃ v,(A0.enc (Y 0))[0]?=some v:=⟨_,aA (by rw [A0.len];exact h0)⟩
     obtain ⟨v,hv⟩:=h2;rw [hv] at h1;have h3:=Wg h1;cases a;simp only [Addr.add] at h3;simp_all
   refine Zg (fun i hi j hj=>?_) h0;rw [hlen] at hi;rw [hget i hi];have h1:=(World.cells?_some (hY i hi).1).2.2 j hj;have h2:∃ v,(A0.enc (Y i))[j]?=some v:=⟨_,aA (by rw [A0.len];exact hj)⟩
   obtain ⟨v,hv⟩:=h2;rw [hv] at h1 ⊢;rw [Deep.add_add] at h1;have h3:=Wg h1;rw [QW h3 (.inr trivial)] at h1;exact h1
 rw [hlen] at hi;rw [hget i hi];exact ⟨D i,by simp [hi],(hY i hi).2⟩
end
end Go.Sl
namespace Go.Proofs.YtfdcckcadfhpeaaGreatDoor
open Go Go.Sl Go.ChangeShapes Go.WideShapes Go.RowKit Go.Joins
abbrev ak : List (String × DataW Unit) := [("math/bits.deBruijn32tab", Rows.laid_math_bits_deBruijn32tab), ("math/bits.deBruijn64tab", Rows.laid_math_bits_deBruijn64tab)]
def QY:List Int:=[0,1,56,2,57,49,28,3,61,58,42,50,38,29,17,4,62,47,59,36,45,43,51,22,53,39,33,30,24,18,12,5,63,55,48,27,60,41,37,16,46,35,44,21,52,32,23,11,54,26,40,15,34,20,31,10,25,14,19,9,13,8,7,6]
theorem qn:Tryz.prog.underlying 4=some .bool:=sX
theorem XG:laidOutB Tryz.prog=true:=sX
theorem own:ownKnob Tryz.prog.godebug=none:=sX
theorem je : Tryz.prog.globalNamed "math/bits.deBruijn64tab" = some 1 := by kernel_rfl
theorem QZ:(Tryz.prog.globals[1]?).map (·.type)=some 296:=sX
theorem ct:Tryz.prog.underlying 296=some (.array 64 5):=sX
theorem qo:Tryz.prog.underlying 5=some (.int .u8):=sX
theorem RA:Tryz.prog.cellsOf 296=64:=sX
theorem cu:Tryz.prog.cellsOf 5=1:=sX
theorem jf {W : I8} (h : laidMetH Tryz.prog ak W) : Lib.TabIs Tryz.prog W "math/bits.deBruijn64tab" .u8 QY := by
 have h1 := h.filter (fun x => x.1 == "math/bits.deBruijn64tab");have e : ak.filter (fun x => x.1 == "math/bits.deBruijn64tab") = [("math/bits.deBruijn64tab", Rows.laid_math_bits_deBruijn64tab)] := by kernel_rfl
 rw [e] at h1;exact Lib.tabIs_of_head (rest:=[]) je QZ ct qo cu RA h1
theorem cv {W:I8} (h:laidMetH Tryz.prog ak W):TabOk (Hs W):=fun k v hv=>by
 have hk:k<QY.length:=by
  have:=(aW.1 hv).1;simpa [JF,QY] using this
 have h1:=(jf h).cell je k hk;have h2:=Rg h1;rw [h2];have e:JF=QY.map fun n=>.int .u8 n:=rfl;rw [e,bQ,aA hk] at hv;rw [←hv,List.getD_eq_getElem?_getD,aA hk];rfl
def RB (cs:Array Value):Obj→Obj
 | .cells _ t frozen=>.cells cs t frozen
 | o=>o
def Mc (os:Os):World:=
 { World.holding Tryz.prog os ⟨#[],#[],[]⟩ with heap:=((World.holding Tryz.prog os ⟨#[],#[],[]⟩).heap.modify 0 (RB #[.int .u8 0,.int .u8 1,.int .u8 28,.int .u8 2,.int .u8 29,.int .u8 14,.int .u8 24,.int .u8 3,.int .u8 30,.int .u8 22,.int .u8 20,.int .u8 15,.int .u8 25,.int .u8 17,.int .u8 4,.int .u8 8,.int .u8 31,.int .u8 27,.int .u8 13,.int .u8 23,.int .u8 21,.int .u8 19,.int .u8 16,.int .u8 7,.int .u8 26,.int .u8 12,.int .u8 18,.int .u8 6,.int .u8 11,.int .u8 5,.int .u8 10,.int .u8 9])).modify 1 (RB JF.toArray) }
end Go.Proofs.YtfdcckcadfhpeaaGreatDoor
namespace Go.Sl
open Go
def qp (l:List A6):Prop:=∀ d∈l,0≤d.v∧d.v<4294967296
def Dt:List A6→Int
 | []=>0
 | d :: l=>d.v+4294967296*Dt l
def pb (n:Nat):Int:=((4294967296 ^ n:Nat):Int)
theorem cw (n:Nat):0<pb n:=by unfold pb;exact Int.ofNat_lt.2 (Nat.pow_pos tI)
theorem jg {m n:Nat} (h:m≤n):pb m≤pb n:=by unfold pb;exact pZ.2 (lF tI h)
structure IsBig (neg:Bool) (l:List A6) (z:Int):Prop where
 digs:qp l
 top:H3 l
 sign:l=[]→neg=false
 val:z=if neg=true then -Dt l else Dt l
def lg (l:List A6) (i:Nat):Int:=(l[((i:Nat):Int).toNat]?.getD default).v
theorem RC {α:Type} [A0 α] {G:A2} {a:J0 Addr} {c sz:Nat} {l:List α} (h:Arr G a l) (n:Nat):Arr G (B7 a c 0 sz) (l.take n):=by
 refine ⟨uA _,?_⟩;rcases h.2 with h0 | ⟨b,o,rfl,hr⟩
 · left;rw [bM];omega
 refine .inr ⟨b,o,?_,fun i v hi=>hr i v ?_⟩
 · unfold B7;split
   · rfl
   simp [Addr.add]
 have e:uD l=uD (l.take n)++uD (l.drop n):=by rw [←xM,eZ]
 rw [e,bC (aW.1 hi).1];exact hi
end Go.Sl
namespace Go.Proofs.YtfdcckcadfhpeaaGreatDoor
open Go Go.Sl
def vG (x y:Int):Int:=if x<y then -1 else if y<x then 1 else 0
theorem Jx {x y:Int} (h:x<y):vG x y=-1:=aE h
theorem Jy {x y:Int} (h:y<x):vG x y=1:=by unfold vG;rw [aC (by omega),aE h]
theorem Zh {x y:Int} (h:x=y):vG x y=0:=by unfold vG;rw [aC (by omega),aC (by omega)]
theorem Rh {x y u v:Int} (h1:x<y↔u<v) (h2:y<x↔v<u):vG x y=vG u v:=by unfold vG;simp only [h1,h2]
section
attribute [local irreducible] Dt pb vG
end
section
attribute [local irreducible] Dt pb vG
end
def Ox (z:Int):Int:=if z=0 then 0 else if z<0 then -1 else 1
theorem RD {z:Int} (h:z<0):Ox z=-1:=by unfold Ox;rw [aC (by omega),aE h]
theorem RE {z:Int} (h:0<z):Ox z=1:=by unfold Ox;rw [aC (by omega),aC (by omega)]
theorem RF {z:Int} (h:z=0):Ox z=0:=by unfold Ox;rw [aE h]
section
attribute [local irreducible] Dt pb vG uG
end
theorem RG {n:Int} (h:-9223372036854775808≤n∧n<0):IntKind.u64.wrap (0 - IntKind.u64.wrap n)=-n:=by
 rw [IntKind.wrap_u64,IntKind.wrap_u64];omega
section
attribute [local irreducible] Dt pb vG uG
end
end Go.Proofs.YtfdcckcadfhpeaaGreatDoor
namespace Go.Sl
open Go
section
variable {B:Bs} {e:B0} {D:List Deferred} {H:Hp} {G:A2}
theorem retagH {a:Act} {w:I8} (hh:A5 B ⟨e,D,H,G⟩ a w) (t t':Nat) {k:J0 Nat} {o:Obj} (ht:H.get t=some (k,o)) (hn:t≠t') (hk:H.get t'=none∨True):A5 B ⟨e,D,(t',k,o) :: (t,none,o) :: H,G⟩ a w:=by
 have key:∀ i b o',Hp.get ((t',k,o) :: (t,none,o) :: H) i=some (some b,o')→(i=t'∧H.get t=some (some b,o'))∨(i≠t'∧i≠t∧H.get i=some (some b,o')):=fun i b o' hx=>by
  rw [bF] at hx;split at hx
  · rename_i hi;left;refine ⟨hi.symm,?_⟩;rw [ht];exact hx
  rename_i hi;rw [bF] at hx;split at hx
  · simp at hx
  rename_i hi2;exact .inr ⟨fun h=>hi h.symm,fun h=>hi2 h.symm,hx⟩
 refine ⟨hh.size,hh.defers,hh.env,⟨?_,?_,hh.mem.imm,?_⟩,hh.upd,?_,hh.le,hh.new⟩
 · intro i b o' hx;rcases key i b o' hx with ⟨_,h⟩ | ⟨_,_,h⟩
   · exact hh.mem.own _ b o' h
   exact hh.mem.own _ b o' h
 · intro i i' b o1 o2 hx hy;rcases key i b o1 hx with ⟨h1,h2⟩ | ⟨h1,h1',h2⟩ <;> rcases key i' b o2 hy with ⟨h3,h4⟩ | ⟨h3,h3',h4⟩
   · rw [h1,h3]
   · exact absurd (hh.mem.one _ _ b _ _ h2 h4).symm h3'
   · exact absurd (hh.mem.one _ _ b _ _ h2 h4) h1'
   exact hh.mem.one _ _ b _ _ h2 h4
 · intro i b o' hx;rcases key i b o' hx with ⟨_,h⟩ | ⟨_,_,h⟩
   · exact hh.mem.off _ b o' h
   exact hh.mem.off _ b o' h
 intro i b o' hx;rcases key i b o' hx with ⟨_,h⟩ | ⟨_,_,h⟩
 · exact hh.mine _ b o' h
 exact hh.mine _ b o' h
theorem Ar.retag {x:Exit} {Q:Exit→Act→I8→Prop} (t t':Nat) {k:J0 Nat} {o:Obj} (ht:H.get t=some (k,o)) (hn:Nat.beq t t'=false) (h:Ar Q x B ⟨e,D,(t',k,o) :: (t,none,o) :: H,G⟩):Ar Q x B ⟨e,D,H,G⟩:=
 fun a w hh=>h a w (retagH hh t t' ht (fun e=>by subst e;simp at hn) (.inr trivial))
end
end Go.Sl
namespace Go.Proofs.YtfdcckcadfhpeaaGreatDoor
open Go Go.Sl
theorem RH (z:Int):-1≤Ox z∧Ox z≤1:=by unfold Ox;split;exact ⟨by omega,by omega⟩;split <;> exact ⟨by omega,by omega⟩
theorem XH (z:Int):-9223372036854775808≤Ox z∧Ox z≤9223372036854775807:=by have:=RH z;omega
theorem XI (z:Int):Ox z*z=z.natAbs:=by
 unfold Ox;split
 · omega
 split <;> omega
theorem JG {x y q r:Int} (hy:y≠0) (h:x=q*y+r) (h0:0≤r) (h1:r<y.natAbs):q=x / y∧r=x % y:=by
 rcases Int.lt_or_gt_of_ne hy with hn | hp
 · have:=(Int.ediv_emod_unique' (a:=x) (b:=y) (r:=r) (q:=q) hn).2 ⟨by rw [dH y q];omega,h0,by omega⟩;exact ⟨this.1.symm,this.2.symm⟩
 have:=(Int.ediv_emod_unique (a:=x) (b:=y) (r:=r) (q:=q) hp).2 ⟨by rw [dH y q];omega,h0,by omega⟩;exact ⟨this.1.symm,this.2.symm⟩
theorem RK {n1 n2:Bool} {x y la lb lq lr:Int} (hx:x=if n1=true then -la else la) (hy:y=if n2=true then -lb else lb) (hv:la=lq*lb+lr) :
 x=(if decide (n1≠n2)=true then -lq else lq)*y+(if n1=true then -lr else lr):=by
 subst hx hy hv;cases n1 <;> cases n2 <;> simp [hU,jF,Int.neg_add]
theorem XJ {x y q r:Int} (h:x=q*y+r):x=(q - Ox y)*y+(r+y.natAbs):=by
 have:=XI y;rw [oY,this];omega
section
attribute [local irreducible] Dt pb vG uG
end
def B8 (l:List A6) (n:Nat):Prop:=n≤l.length∧(∀ j,n≤j→j<l.length→(l[j]?.getD default).v=0)∧(n=0∨(l[n - 1]?.getD default).v≠0)
theorem Pn {α:Type} [A0 α] {G:A2} {a:J0 Addr} {c sz:Nat} {l:List α} (h:Arr G a l) (n:Nat):Arr G (B7 a c 0 sz) (l.take n):=by
 refine ⟨uA _,?_⟩;rcases h.2 with h0 | ⟨b,o,rfl,hr⟩
 · left;rw [bM];omega
 refine .inr ⟨b,o,?_,fun i v hi=>hr i v ?_⟩
 · unfold B7;split
   · rfl
   simp [Addr.add]
 have e:uD l=uD (l.take n)++uD (l.drop n):=by rw [←xM,eZ]
 rw [e,bC (aW.1 hi).1];exact hi
theorem zO (G:A2) (neg:Bool) (a:J0 Addr) (c:Nat) (l:List A6) (hl:Arr G a l) (hb:l.length≤1099511627776) (hc:l.length≤c) :
 Does Tryz.prog 168 [.bool neg,.slice a l.length c] G [] (fun v G' Ho=>∃ n,v=.agg #[.bool (neg && decide (0<n)),.slice (B7 a c 0 1) n c]∧B8 l n∧G'=G∧Ho=[]):=by
 refine D0 Tryz.func168 Tryz.ntmps168 fun w=>?_;refine aK 2 [] ?_;refine aV 0 U T.zero190 fun b1=>?_;refine bG 11 [] ?_;refine gZ (ι:=Nat) (fun n=>([(5,.int .i64 (n:Int)),(4,.pointer (some ⟨b1,0,none⟩)),(0,.bool neg),(1,.slice a (List.length l) c)],[(0,some b1,.cells #[.bool Bool.false,.slice none 0 0] 190)])) (fun n=>n≤l.length∧(∀ j,n≤j→j<l.length→(l[j]?.getD default).v=0)) (fun n=>n) (l.length) (⟨aH _,fun j h1 h2=>absurd h2 sU⟩) fun n=>fun hk=>?_;obtain ⟨hn,hz⟩:=hk;refine aK 6 [] ?_;apply bS 7 10 17 U;intro hg1;refine aB 7 [] ?_;refine gG (α:=A6) T.sl123 ?_;refine aB 1 [] ?_;refine kT 0 T.one215 ?_;refine aB 3 [] ?_;exact cC 7 0;intro hg1;refine aB 7 [] ?_;exact cC 7 0;refine bG 2 [] ?_;refine cF (fun hc1=>?_) fun hc1=>?_;refine bE 9 [] ?_;rotate_left;refine aK 9 [] ?_;refine Vv 21 U (fun hg1=>?_) fun hg1=>?_;refine aB 7 [] ?_;refine aZ (Jq T.sl123 U U sU) ?_;refine aZ (cQ (cs:=[_,_]) T.st190 U U U) ?_;refine aY 4 [0] ?_;refine cW (.inr U) (Ho:=Hp.only _ []) U (.agg 0 U U T.agg190) (bH _ _) ?_;rotate_left;refine aB 5 [] ?_;refine aZ (Jq T.sl123 U U sU) ?_;refine aZ (cQ (cs:=[_,_]) T.st190 U U U) ?_;refine aY 4 [0] ?_;refine cW (.inr U) (Ho:=Hp.only _ []) U (.agg 0 U U T.agg190) (bH _ _) ?_;rotate_left
 · refine dW 5 U (show _=Value.int .i64 ((n - 1:Nat):Int) by congr 1;omega) ?_;refine cO (n - 1) ?_ ?_
   · refine ⟨by omega,fun j h1 h2=>?_⟩;rcases aN j n with h3 | h3
     · have e:j=((n:Int) - 1).toNat:=sU;rw [e];exact hc1.2
     exact hz j h3 h2
   omega
 · refine ⟨n,?_,⟨hn,hz,?_⟩,U,U⟩
   · rw [hg1];have e:((0:Int)<(n:Int))=(0<n):=by rw [eq_iff_iff];omega
     simp only [e,nK,aG]
   rcases fQ n with h | h
   · exact .inl h
   refine .inr fun h2=>hc1 ⟨by omega,?_⟩;have e:((n:Int) - 1).toNat=n - 1:=sU;rw [e];exact h2
 refine ⟨n,?_,⟨hn,hz,?_⟩,U,U⟩
 · rw [hg1];simp only [Bool.false_and,aG]
 rcases fQ n with h | h
 · exact .inl h
 refine .inr fun h2=>hc1 ⟨by omega,?_⟩;have e:((n:Int) - 1).toNat=n - 1:=sU;rw [e];exact h2
theorem B8.val {l:List A6} {n:Nat} (h:B8 l n):sY (l.take n)=sY l:=MU h.2.1
theorem B8.top {l:List A6} {n:Nat} (h:B8 l n):H3 (l.take n):=by
 obtain ⟨h1,h2,h3⟩:=h;rcases h3 with h3 | h3
 · subst h3;exact .inl U
 by_cases h0:n=0
 · subst h0;exact .inl U
 refine .inr ?_;rw [bM,fW h1,mG,aE (by omega)];exact h3
theorem B8.len {l:List A6} {n:Nat} (h:B8 l n):(l.take n).length=n:=by rw [bM,fW h.1]
theorem B8.isInt {l:List A6} {n:Nat} (h:B8 l n) (hd:A8 l) (neg:Bool):C0 (neg && decide (0<n)) (l.take n) (if neg=true then -sY l else sY l):=by
 refine ⟨hd.take n,h.top,fun e=>?_,?_⟩
 · have hl:=h.len;rw [e] at hl;have:n=0:=by simpa using hl.symm
   subst this;simp
 have hv:=h.val;rw [←hv];cases neg with
 | false=>simp
 | true =>
   by_cases h0:n=0
   · subst h0;simp [uX]
   have:0<n:=sU;simp [this]
theorem B8.num {G:A2} {a:J0 Addr} {c:Nat} {l:List A6} {n:Nat} (h:B8 l n) (hd:A8 l) (hl:Arr G a l) (hc:l.length≤c) (neg:Bool):C3 G ⟨neg && decide (0<n),B7 a c 0 1,n,c⟩ (if neg=true then -sY l else sY l):=by
 refine ⟨l.take n,h.len,bP h.1 hc,?_,h.isInt hd neg⟩;exact Pn hl n
theorem JH (P s:Int):P*(s % 65536)+65536*P*(s / 65536)=P*s:=by
 have h:=Int.emod_add_mul_ediv s 65536;have e:65536*P*(s / 65536)=P*(65536*(s / 65536)):=by rw [dH 65536 P,bT]
 rw [e,←eV,h]
def dg (l:List A6) (i:Nat):Int:=(l[((i:Nat):Int).toNat]?.getD default).v
theorem Db {l:List A6} (h:A8 l) {i:Nat} (hi:i<l.length):0≤dg l i∧dg l i<65536:=h.at sU
theorem Md {l:List A6} {i:Nat} (hi:l.length≤i):dg l i=0:=by
 unfold dg;rw [aG,bV hi];rfl
theorem wK (l:List A6) (i:Nat):sY (l.take (i+1))=sY (l.take i)+pw i*dg l i:=by
 rcases aN i l.length with h | h
 · exact Fv h
 rw [vY h,vY sU,Md h,cA,dV]
theorem Gr {la lb r:List A6} {i:Nat} {cy s:Int} (hri:r.length=i) (hv:sY (la.take i)+sY (lb.take i)=sY r+pw i*cy) (hs:s=cy+dg la i+dg lb i) :
 sY (la.take (i+1))+sY (lb.take (i+1))=sY (r++[⟨s % 65536⟩])+pw (i+1)*(s / 65536):=by
 rw [wK,wK,Bp,hri,zN];have h:=JH (pw i) s;rw [hs,eV,eV,←hs] at h;show _=sY r+pw i*(s % 65536)+65536*pw i*(s / 65536);omega
theorem Bq {r:List A6} (h:A8 r) (s:Int):A8 (r++[⟨s % 65536⟩]):=h.append (pM ⟨Int.emod_nonneg _ tI,Int.emod_lt_of_pos _ tI⟩)
section
attribute [local irreducible] sY pw
theorem qt (G:A2) (a b:J0 Addr) (ca cb:Nat) (la lb:List A6) (ha:Arr G a la) (hb:Arr G b lb) (da:A8 la) (db:A8 lb) (h1:la.length≤1073741824) (h2:lb.length≤1073741824) :
 Does Tryz.prog 277 [.slice a la.length ca,.slice b lb.length cb] G [] (fun v G' Ho=>∃ o c r j,v=.slice o r.length c∧A3 o c r j∧Ho=[(0,o.map (·.block),Row 215 r j)]∧G'=G∧A8 r∧sY r=sY la+sY lb∧r.length≤max la.length lb.length+1):=by
 refine D0 Tryz.func277 Tryz.ntmps277 fun w=>?_;refine dK 0 (Row 215 ([]:List A6) []) ?_;refine bJ 22 [] ?_;refine fY (ι:=Nat×Int×List A6×(J0 Addr×Nat×List Value)) (fun (i,cy,r,(o,d,j))=>([(7,.int .i64 (i:Int)),(6,.int .u32 cy),(5,.slice o r.length d),(4,.slice none 0 0),(0,.slice a (List.length la) ca),(1,.slice b (List.length lb) cb)],[(0,o.map (·.block),Row 215 r j)])) (fun (i,cy,r,(o,d,j))=>r.length=i∧(i≤max la.length lb.length∨(i≤max la.length lb.length+1∧cy=0))∧0≤cy∧cy≤1∧A8 r∧sY (la.take i)+sY (lb.take i)=sY r+pw i*cy∧A3 o d r j) (fun (i,cy,r,(o,d,j))=>2*(max la.length lb.length - i)+cy.toNat) ((0,0,[],(none,0,[]))) (⟨U,.inl (aP _),by decide,by decide,qT,by rw [dP,dP,cA,dV,uX];rfl,dN⟩) ⟨U,U,U,U,U,U,I3⟩ ⟨U,I3⟩ fun ⟨i,cy,r,(o,d,j)⟩=>fun hk=>?_;obtain ⟨hri,hiM,hc0,hc1,hdr,hv,hob⟩:=hk;rcases aN i la.length with hia | hia
 · have da1:0≤(la[(i:Int).toNat]?.getD default).v∧(la[(i:Int).toNat]?.getD default).v<65536:=Db da hia;rcases aN i lb.length with hib | hib
   · have db1:0≤(lb[(i:Int).toNat]?.getD default).v∧(lb[(i:Int).toNat]?.getD default).v<65536:=Db db hib;refine aK 8 [] ?_;refine rQ 12 ?_;refine aS 30 [1,1] ?_;refine gG (α:=A6) T.sl123 ?_;refine kT 0 T.one215 ?_;refine aZ (mN U U sU) ?_;refine aS 17 [1] ?_;refine gG (α:=A6) T.sl123 ?_;refine kT 0 T.one215 ?_;refine aZ (mN U U sU) ?_;refine aS 7 [] ?_;refine aZ (kU U U sU) ?_;refine eH (α:=A6) 1 [⟨(cy+Go.Sl.A6.v (Option.getD la[Int.toNat (↑i:Int)]? Inhabited.default)+Go.Sl.A6.v (Option.getD lb[Int.toNat (↑i:Int)]? Inhabited.default)) % 65536⟩] U T.sl123 T.el215 U U U U U fun b1=>?_;refine iP (α:=A6) 0 T.sl123 T.el215 (eP 1 U) fun a1 c1 junk1 ho1=>?_;refine aS 5 [] ?_;refine aZ (pI U U sU) ?_;refine aY 9 [] ?_;refine cO ((i+1,(cy+(la[(i:Int).toNat]?.getD default).v+(lb[(i:Int).toNat]?.getD default).v) / 65536,_,(a1,c1,junk1))) ?_ ?_
     · exact ⟨by rw [aD,hri];rfl,by omega,by omega,by omega,Bq hdr _,Gr hri hv (by rfl),ho1⟩
     show 2*(max la.length lb.length - (i+1))+((cy+(la[(i:Int).toNat]?.getD default).v+(lb[(i:Int).toNat]?.getD default).v) / 65536).toNat<2*(max la.length lb.length - i)+cy.toNat;omega
   have z:=Md hib;refine aK 8 [] ?_;refine rQ 12 ?_;refine aS 30 [1,1] ?_;refine gG (α:=A6) T.sl123 ?_;refine kT 0 T.one215 ?_;refine aZ (mN U U sU) ?_;refine aS 19 [0] ?_;refine aZ (kU U U sU) ?_;refine eH (α:=A6) 1 [⟨(cy+Go.Sl.A6.v (Option.getD la[Int.toNat (↑i:Int)]? Inhabited.default)) % 65536⟩] U T.sl123 T.el215 U U U U U fun b1=>?_;refine iP (α:=A6) 0 T.sl123 T.el215 (eP 1 U) fun a1 c1 junk1 ho1=>?_;refine aS 5 [] ?_;refine aZ (pI U U sU) ?_;refine aY 9 [] ?_;refine cO ((i+1,(cy+(la[(i:Int).toNat]?.getD default).v) / 65536,_,(a1,c1,junk1))) ?_ ?_
   · exact ⟨by rw [aD,hri];rfl,by omega,by omega,by omega,Bq hdr _,Gr hri hv (by rw [z,dV];rfl),ho1⟩
   show 2*(max la.length lb.length - (i+1))+((cy+(la[(i:Int).toNat]?.getD default).v) / 65536).toNat<2*(max la.length lb.length - i)+cy.toNat;omega
 have z:=Md hia;rcases aN i lb.length with hib | hib
 · have db1:0≤(lb[(i:Int).toNat]?.getD default).v∧(lb[(i:Int).toNat]?.getD default).v<65536:=Db db hib;refine aK 8 [] ?_;refine iW 12 ?_;refine aB 10 [] ?_;refine rQ 18 ?_;refine aS 36 [1,0,1] ?_;refine gG (α:=A6) T.sl123 ?_;refine kT 0 T.one215 ?_;refine aZ (mN U U sU) ?_;refine aS 7 [] ?_;refine aZ (kU U U sU) ?_;refine eH (α:=A6) 1 [⟨(cy+Go.Sl.A6.v (Option.getD lb[Int.toNat (↑i:Int)]? Inhabited.default)) % 65536⟩] U T.sl123 T.el215 U U U U U fun b1=>?_;refine iP (α:=A6) 0 T.sl123 T.el215 (eP 1 U) fun a1 c1 junk1 ho1=>?_;refine aS 5 [] ?_;refine aZ (pI U U sU) ?_;refine aY 9 [] ?_;refine cO ((i+1,(cy+(lb[(i:Int).toNat]?.getD default).v) / 65536,_,(a1,c1,junk1))) ?_ ?_
   · exact ⟨by rw [aD,hri];rfl,by omega,by omega,by omega,Bq hdr _,Gr hri hv (by rw [z,dV];rfl),ho1⟩
   show 2*(max la.length lb.length - (i+1))+((cy+(lb[(i:Int).toNat]?.getD default).v) / 65536).toNat<2*(max la.length lb.length - i)+cy.toNat;omega
 have z2:=Md hib;by_cases hcy:0<cy
 · refine aK 8 [] ?_;refine iW 12 ?_;refine aB 10 [] ?_;refine iW 18 ?_;refine aS 40 [1,0,0] ?_;refine aZ (kU U U sU) ?_;refine eH (α:=A6) 1 [⟨cy % 65536⟩] U T.sl123 T.el215 U U U U U fun b1=>?_;refine iP (α:=A6) 0 T.sl123 T.el215 (eP 1 U) fun a1 c1 junk1 ho1=>?_;refine aS 5 [] ?_;refine aZ (pI U U sU) ?_;refine aY 9 [] ?_;refine cO ((i+1,(cy) / 65536,_,(a1,c1,junk1))) ?_ ?_
   · exact ⟨by rw [aD,hri];rfl,by omega,by omega,by omega,Bq hdr _,Gr hri hv (by rw [z,z2];omega),ho1⟩
   show 2*(max la.length lb.length - (i+1))+((cy) / 65536).toNat<2*(max la.length lb.length - i)+cy.toNat;omega
 have e0:cy=0:=sU;subst e0;rw [vY hia,vY hib,cA,dV] at hv;refine aK 8 [] ?_;refine iW 12 ?_;refine aB 10 [] ?_;refine iW 18 ?_;refine aY 20 [0] ?_;refine Ar.p1 [0] ?_;exact ⟨_,_,_,_,U,hob,U,U,hdr,hv.symm,by omega⟩
theorem Eo {la lb r:List A6} {i:Nat} {cy cy' s:Int} (hri:r.length=i) (hv:sY (la.take i) - sY (lb.take i)=sY r - pw i*cy) (hs:s=dg la i - dg lb i - cy+65536*cy') :
 sY (la.take (i+1)) - sY (lb.take (i+1))=sY (r++[⟨s⟩]) - pw (i+1)*cy':=by
 rw [wK,wK,Bp,hri,zN];have h:pw i*s=pw i*dg la i - pw i*dg lb i - pw i*cy+65536*pw i*cy':=by
  rw [hs,eV,oZ,oZ,←bT,dH (pw i) 65536]
 show _=sY r+pw i*s - 65536*pw i*cy';omega
theorem MX {la lb r:List A6} {n:Nat} {cy:Int} (hn:n=la.length) (hb:lb.length≤la.length) (hle:sY lb≤sY la) (hri:r.length=n) (hd:A8 r) (hc:0≤cy∧cy≤1) (hv:sY (la.take n) - sY (lb.take n)=sY r - pw n*cy):sY r=sY la - sY lb:=by
 rw [vY sU,vY sU] at hv;have h:=yQ hd;rw [hri] at h;have hcy:cy=0:=by
  rcases (show cy=0∨cy=1 by omega) with h1 | h1
  · exact h1
  rw [h1,iE] at hv;omega
 rw [hcy,cA] at hv;omega
theorem cz (G:A2) (a b:J0 Addr) (ca cb:Nat) (la lb:List A6) (ha:Arr G a la) (hb:Arr G b lb) (da:A8 la) (db:A8 lb) (h1:la.length≤1073741824) (h2:lb.length≤la.length) (hle:sY lb≤sY la) :
 Does Tryz.prog 278 [.slice a la.length ca,.slice b lb.length cb] G [] (fun v G' Ho=>∃ o c r j,v=.slice o r.length c∧A3 o c r j∧Ho=[(0,o.map (·.block),Row 215 r j)]∧G'=G∧A8 r∧sY r=sY la - sY lb∧r.length=la.length):=by
 refine D0 Tryz.func278 Tryz.ntmps278 fun w=>?_;refine dK 0 (Row 215 ([]:List A6) []) ?_;refine bJ 22 [] ?_;refine fY (ι:=Nat×Int×List A6×(J0 Addr×Nat×List Value)) (fun (i,cy,r,(o,d,j))=>([(7,.int .i64 (i:Int)),(6,.int .u32 cy),(5,.slice o r.length d),(4,.slice none 0 0),(0,.slice a (List.length la) ca),(1,.slice b (List.length lb) cb)],[(0,o.map (·.block),Row 215 r j)])) (fun (i,cy,r,(o,d,j))=>r.length=i∧i≤la.length∧0≤cy∧cy≤1∧A8 r∧sY (la.take i) - sY (lb.take i)=sY r - pw i*cy∧A3 o d r j) (fun (i,cy,r,(o,d,j))=>la.length - i) ((0,0,[],(none,0,[]))) (⟨U,aP _,by decide,by decide,qT,by rw [dP,dP,cA,oE,pY,uX],dN⟩) ⟨U,U,U,U,U,U,I3⟩ ⟨U,I3⟩ fun ⟨i,cy,r,(o,d,j)⟩=>fun hk=>?_;obtain ⟨hri,hiM,hc0,hc1,hdr,hv,hob⟩:=hk;rcases aN i la.length with hia | hia
 · have da1:0≤(la[(i:Int).toNat]?.getD default).v∧(la[(i:Int).toNat]?.getD default).v<65536:=Db da hia;rcases aN i lb.length with hib | hib
   · have db1:0≤(lb[(i:Int).toNat]?.getD default).v∧(lb[(i:Int).toNat]?.getD default).v<65536:=Db db hib;by_cases hlt:(la[((i:Nat):Int).toNat]?.getD default).v<cy+(lb[((i:Nat):Int).toNat]?.getD default).v
     · refine aK 34 [1,1] ?_;refine gG (α:=A6) T.sl123 ?_;refine kT 0 T.one215 ?_;refine aZ (mN U U sU) ?_;refine aS 12 [] ?_;refine gG (α:=A6) T.sl123 ?_;refine kT 0 T.one215 ?_;refine aS 15 [1] ?_;refine aZ (mN U U sU) ?_;refine aS 11 [] ?_;refine aZ (sH U U sU) ?_;refine eH (α:=A6) 1 [⟨Go.Sl.A6.v (Option.getD la[Int.toNat (↑i:Int)]? Inhabited.default)+65536 - (cy+Go.Sl.A6.v (Option.getD lb[Int.toNat (↑i:Int)]? Inhabited.default))⟩] U T.sl123 T.el215 U U U U U fun b1=>?_;refine iP (α:=A6) 0 T.sl123 T.el215 (eP 1 U) fun a1 c1 junk1 ho1=>?_;refine aY 9 [] ?_;refine cO ((i+1,1,_,(a1,c1,junk1))) ?_ ?_
       · exact ⟨by rw [aD,hri];rfl,by omega,by decide,by decide,hdr.append (pM sU),Eo hri hv (by unfold dg;omega),ho1⟩
       show la.length - (i+1)<la.length - i;omega
     refine aK 34 [1,1] ?_;refine gG (α:=A6) T.sl123 ?_;refine kT 0 T.one215 ?_;refine aZ (mN U U sU) ?_;refine aS 12 [] ?_;refine gG (α:=A6) T.sl123 ?_;refine kT 0 T.one215 ?_;refine aS 18 [0] ?_;refine aZ (sH U U sU) ?_;refine eH (α:=A6) 1 [⟨Go.Sl.A6.v (Option.getD la[Int.toNat (↑i:Int)]? Inhabited.default) - (cy+Go.Sl.A6.v (Option.getD lb[Int.toNat (↑i:Int)]? Inhabited.default))⟩] U T.sl123 T.el215 U U U U U fun b1=>?_;refine iP (α:=A6) 0 T.sl123 T.el215 (eP 1 U) fun a1 c1 junk1 ho1=>?_;refine aY 9 [] ?_;refine cO ((i+1,0,_,(a1,c1,junk1))) ?_ ?_
     · exact ⟨by rw [aD,hri];rfl,by omega,by decide,by decide,hdr.append (pM sU),Eo hri hv (by unfold dg;omega),ho1⟩
     show la.length - (i+1)<la.length - i;omega
   have z:=Md hib;by_cases hlt:(la[((i:Nat):Int).toNat]?.getD default).v<cy
   · refine aK 41 [1,0] ?_;refine gG (α:=A6) T.sl123 ?_;refine kT 0 T.one215 ?_;refine aS 15 [1] ?_;refine aZ (mN U U sU) ?_;refine aS 11 [] ?_;refine aZ (sH U U sU) ?_;refine eH (α:=A6) 1 [⟨Go.Sl.A6.v (Option.getD la[Int.toNat (↑i:Int)]? Inhabited.default)+65536 - cy⟩] U T.sl123 T.el215 U U U U U fun b1=>?_;refine iP (α:=A6) 0 T.sl123 T.el215 (eP 1 U) fun a1 c1 junk1 ho1=>?_;refine aY 9 [] ?_;refine cO ((i+1,1,_,(a1,c1,junk1))) ?_ ?_
     · exact ⟨by rw [aD,hri];rfl,by omega,by decide,by decide,hdr.append (pM sU),Eo hri hv (by rw [z];unfold dg;omega),ho1⟩
     show la.length - (i+1)<la.length - i;omega
   refine aK 41 [1,0] ?_;refine gG (α:=A6) T.sl123 ?_;refine kT 0 T.one215 ?_;refine aS 18 [0] ?_;refine aZ (sH U U sU) ?_;refine eH (α:=A6) 1 [⟨Go.Sl.A6.v (Option.getD la[Int.toNat (↑i:Int)]? Inhabited.default) - cy⟩] U T.sl123 T.el215 U U U U U fun b1=>?_;refine iP (α:=A6) 0 T.sl123 T.el215 (eP 1 U) fun a1 c1 junk1 ho1=>?_;refine aY 9 [] ?_;refine cO ((i+1,0,_,(a1,c1,junk1))) ?_ ?_
   · exact ⟨by rw [aD,hri];rfl,by omega,by decide,by decide,hdr.append (pM sU),Eo hri hv (by rw [z];unfold dg;omega),ho1⟩
   show la.length - (i+1)<la.length - i;omega
 refine bE 22 [0] ?_;refine Ar.p1 [0] ?_;exact ⟨_,_,_,_,U,hob,U,U,hdr,MX sU h2 hle hri hdr ⟨hc0,hc1⟩ hv,by omega⟩
end
theorem Gs (l:List A6) {m:Nat} (h:m≤l.length):sY l=sY (l.take m)+pw m*sY (l.drop m):=by
 have e:sY l=sY (l.take m++l.drop m):=by rw [eZ]
 rw [e,Da,bM,fW h]
theorem de {x y:A6} (h:x.v=y.v):x=y:=by cases x;cases y;simp only at h;rw [h]
theorem Wi {la lb:List A6} {k:Nat} (hn:la.length=lb.length) (h:∀ j,k≤j→j<la.length→dg la j=dg lb j):la.drop k=lb.drop k:=by
 apply fL;intro j;rw [iR,iR];rcases aN (k+j) la.length with hj | hj
 · have:=h (k+j) sU hj;unfold dg at this;rw [aG,aA hj,aA sU] at this;rw [aA hj,aA sU];exact congrArg some (de this)
 rw [bV hj,bV sU]
theorem JI {la lb:List A6} {k:Nat} (hn:la.length=lb.length) (hk:k<la.length) (da:A8 la) (db:A8 lb) (h:∀ j,k+1≤j→j<la.length→dg la j=dg lb j) (hlt:dg la k<dg lb k):sY la<sY lb:=by
 have e1:=Gs la (m:=k+1) sU;have e2:=Gs lb (m:=k+1) sU;rw [wK,Wi hn h] at e1;rw [wK] at e2;have h1:=yQ (da.take k);have h2:=uM (db.take k);rw [bM,fW sU] at h1;have h3:=fE (show dg la k+1≤dg lb k by omega) (fN (yU k));rw [eV,iE] at h3;omega
section
attribute [local irreducible] sY pw vG
theorem RM (G:A2) (a b:J0 Addr) (ca cb:Nat) (la lb:List A6) (ha:Arr G a la) (hb:Arr G b lb) (da:A8 la) (db:A8 lb) (ta:H3 la) (tb:H3 lb) (h1:la.length≤1073741824) (h2:lb.length≤1073741824) :
 Does Tryz.prog 216 [.slice a la.length ca,.slice b lb.length cb] G [] (fun v G' Ho=>v=.int .i64 (vG (sY la) (sY lb))∧G'=G∧Ho=[]):=by
 refine D0 Tryz.func216 Tryz.ntmps216 fun w=>?_;by_cases hn:la.length=lb.length
 · refine bJ 28 [0] ?_;refine gZ (ι:=Nat) (fun k=>([(5,.int .i64 ((k:Int) - 1)),(0,.slice a (List.length la) ca),(1,.slice b (List.length lb) cb)],[])) (fun k=>k≤la.length∧∀ j,k≤j→j<la.length→dg la j=dg lb j) (fun k=>k) (la.length) (⟨aH _,fun j h1 h2=>absurd h2 sU⟩) fun k=>fun hk=>?_;obtain ⟨hk1,hz⟩:=hk;rcases fQ k with rfl | hpos
   · refine bE 19 [0] ?_;refine cG ?_;have e:la=lb:=by
      have:=Wi (k:=0) hn hz;simpa using this
     exact ⟨by rw [e,Zh rfl],U,U⟩
   have e1:(la[((k:Int) - 1).toNat]?.getD default).v=dg la (k - 1):=by
    unfold dg;rw [show (((k:Nat):Int) - 1).toNat=((k - 1:Nat):Int).toNat by omega]
   have e2:(lb[((k:Int) - 1).toNat]?.getD default).v=dg lb (k - 1):=by
    unfold dg;rw [show (((k:Nat):Int) - 1).toNat=((k - 1:Nat):Int).toNat by omega]
   have hz':∀ j,(k - 1)+1≤j→j<la.length→dg la j=dg lb j:=fun j h1 h2=>hz j sU h2;refine bJ 14 [1] ?_;refine dL [] [] T.mixed [[0],[1]] ?_;refine kE (α:=A6) 2 T.sl123 ?_;refine rG 3 [] 0 T.one215 ?_;refine eO [[4],[5]] ?_;refine kE (α:=A6) 6 T.sl123 ?_;refine rG 7 [] 0 T.one215 ?_;refine eO [[8]] ?_;refine eU ?_;refine cH ?_;refine cF (fun hc1=>?_) fun hc1=>?_;refine bE 12 [] ?_;refine cG ?_;rotate_left;refine bJ 3 [] ?_;refine dL [] [] T.mixed [[0],[1]] ?_;refine kE (α:=A6) 2 T.sl123 ?_;refine rG 3 [] 0 T.one215 ?_;refine eO [[4],[5]] ?_;refine kE (α:=A6) 6 T.sl123 ?_;refine rG 7 [] 0 T.one215 ?_;refine eO [[8]] ?_;refine eU ?_;refine cH ?_;refine cF (fun hc2=>?_) fun hc2=>?_;refine bE 11 [] ?_;refine cG ?_;rotate_left;refine bE 8 [] ?_;rotate_left
   · exact ⟨by rw [Jx (JI hn sU da db hz' sU)],U,U⟩
   · exact ⟨by rw [Jy (JI hn.symm sU db da (fun j h1 h2=>(hz' j h1 sU).symm) sU)],U,U⟩
   refine dW 5 U (show _=Value.int .i64 (((k - 1:Nat):Int) - 1) by congr 1;omega) ?_;refine cO (k - 1) ?_ ?_
   · refine ⟨by omega,fun j h1 h2=>?_⟩;rcases aN j k with h3 | h3
     · have e:j=k - 1:=sU;rw [e];omega
     exact hz j h3 h2
   omega
 by_cases hlt:la.length<lb.length
 · refine bE 35 [1,1] ?_;refine cG ?_;exact ⟨by rw [Jx (Ca da db tb hlt)],U,U⟩
 refine bE 36 [1,0] ?_;refine cG ?_;exact ⟨by rw [Jy (Ca db da ta sU)],U,U⟩
theorem df (G:A2) (neg:Bool) (a:J0 Addr) (c:Nat) (l:List A6) (z:Int) (h:C0 neg l z) (h1:l.length≤1073741824) :
 Does Tryz.prog 215 [.agg #[.bool neg,.slice a l.length c]] G [] (fun v G' Ho=>v=.int .i64 (Ox z)∧G'=G∧Ho=[]):=by
 have hz:=h.zero_iff;have hn:=h.neg_iff;refine D0 Tryz.func215 Tryz.ntmps215 fun w=>?_;by_cases h0:l.length=0
 · have hz0:=hz.1 h0;refine aK 2 [] ?_;refine eG 0 fun b1=>?_;refine aY 20 [0,1] ?_;refine cG ?_;exact ⟨by rw [hz0];rfl,U,U⟩
 have hz0:z≠0:=fun e=>h0 (hz.2 e);by_cases hs:z<0
 · rw [hn,cL hs];refine aK 2 [] ?_;refine eG 0 fun b1=>?_;refine aY 30 [0,0,0,1] ?_;refine cG ?_;exact ⟨by unfold Ox;rw [aC hz0,aE hs],U,U⟩
 rw [hn,bN hs];refine aK 2 [] ?_;refine eG 0 fun b1=>?_;refine aY 31 [0,0,0,0] ?_;refine cG ?_;exact ⟨by unfold Ox;rw [aC hz0,aC hs],U,U⟩
theorem qu (G:A2) (n1 n2:Bool) (a b:J0 Addr) (ca cb:Nat) (la lb:List A6) (x y:Int) (ha:Arr G a la) (hb:Arr G b lb) (hx:C0 n1 la x) (hy:C0 n2 lb y) (h1:la.length≤1073741824) (h2:lb.length≤1073741824) :
 Does Tryz.prog 167 [.agg #[.bool n1,.slice a la.length ca],.agg #[.bool n2,.slice b lb.length cb]] G [] (fun v G' Ho=>v=.int .i64 (vG x y)∧G'=G∧Ho=[]):=by
 have da:=hx.digs;have db:=hy.digs;have ta:=hx.top;have tb:=hy.top;have va:=hx.abs;have vb:=hy.abs;have cs:∀ u v:Int,u<v→vG u v=-1:=fun u v h=>Jx h;have cg:∀ u v:Int,v<u→vG u v=1:=fun u v h=>Jy h;refine D0 Tryz.func167 Tryz.ntmps167 fun w=>?_;have sx:(Ox x=-1∧x<0)∨(Ox x=0∧x=0)∨(Ox x=1∧0<x):=by
  rcases mX x 0 with h | h | h
  · exact .inl ⟨RD h,h⟩
  · exact .inr (.inl ⟨RF h,h⟩)
  exact .inr (.inr ⟨RE h,h⟩)
 have sy:(Ox y=-1∧y<0)∨(Ox y=0∧y=0)∨(Ox y=1∧0<y):=by
  rcases mX y 0 with h | h | h
  · exact .inl ⟨RD h,h⟩
  · exact .inr (.inl ⟨RF h,h⟩)
  exact .inr (.inr ⟨RE h,h⟩)
 refine aK 2 [] ?_;refine eG 0 fun b1=>?_;refine eG 1 fun b2=>?_;refine bG 4 [] ?_;refine dL [0,1] [] T.mixed [[0,0],[2,1]] ?_;refine dB 1 ?_;refine cZ U (df _ _ _ _ _ _ sV sV) ?_;refine cY 3 ?_;refine cZ U (df _ _ _ _ _ _ sV sV) ?_;refine bW ?_;refine eO [[4],[5]] ?_;refine eU ?_;refine oS 9 [] ?_;refine cF (fun hc1=>?_) fun hc1=>?_;refine bJ 8 [] ?_;refine cF (fun hc2=>?_) fun hc2=>?_;refine bE 8 [] ?_;refine cG ?_;rotate_left;refine bE 9 [] ?_;refine cG ?_;rotate_left;refine bJ 9 [] ?_;refine cF (fun hc2=>?_) fun hc2=>?_;refine aK 6 [1,0] ?_;refine cZ U (RM _ _ _ _ _ _ _ sV sV sV sV sV sV sV sV) ?_;refine aY 5 [] ?_;refine cG ?_;rotate_left;refine aK 8 [0,1] ?_;refine cZ U (RM _ _ _ _ _ _ _ sV sV sV sV sV sV sV sV) ?_;refine aY 4 [] ?_;refine cG ?_;rotate_left
 · exact ⟨by rw [cs x y sU],U,U⟩
 · exact ⟨by rw [cg x y sU],U,U⟩
 · exact ⟨by rw [Rh (x:=sY lb) (y:=sY la) (u:=x) (v:=y) sU sU],U,U⟩
 exact ⟨by rw [Rh (x:=sY la) (y:=sY lb) (u:=x) (v:=y) sU sU],U,U⟩
end
section
attribute [local irreducible] sY pw vG
theorem qw (G:A2) (neg:Bool) (a:J0 Addr) (c:Nat) (l:List A6) (z:Int) (ha:Arr G a l) (h:C0 neg l z) (h1:l.length≤1073741824) (hc:l.length≤c) :
 Does Tryz.prog 285 [.agg #[.bool neg,.slice a l.length c]] G [] (fun v G' Ho=>∃ r:IV,v=.agg #[.bool r.neg,.slice r.a r.n r.c]∧C3 G r (-z)∧G'=G∧Ho=[]):=by
 refine D0 Tryz.func285 Tryz.ntmps285 fun w=>?_;refine aK 2 [] ?_;refine eG 0 fun b1=>?_;refine aV 1 U T.zero190 fun b2=>?_;refine aS 9 [0,0] ?_;refine cU 2 U (zO _ _ _ _ _ sV sU sV) fun v1 G1 Ho1 hle1 hp=>?_;obtain ⟨tn1,rfl,htr1,rfl,rfl⟩:=hp;refine aY 4 [1] ?_;refine cW (.inr U) (Ho:=Hp.only _ []) U (.agg 1 U U T.agg190) (bH _ _) ?_;refine ⟨⟨!neg && decide (0<tn1),B7 a c 0 1,tn1,c⟩,U,?_,U,U⟩;have e:=htr1.num h.digs ha hc (!neg);have e2:(if (!neg)=true then -sY l else sY l)=-z:=by
  rw [h.val];cases neg <;> simp
 rw [e2] at e;exact e
theorem qx (G:A2) (neg:Bool) (a:J0 Addr) (c:Nat) (l:List A6) (z:Int) (ha:Arr G a l) (h:C0 neg l z) (h1:l.length≤1073741824) (hc:l.length≤c) :
 Does Tryz.prog 280 [.agg #[.bool neg,.slice a l.length c]] G [] (fun v G' Ho=>∃ r:IV,v=.agg #[.bool r.neg,.slice r.a r.n r.c]∧C3 G r (z.natAbs:Int)∧G'=G∧Ho=[]):=by
 refine D0 Tryz.func280 Tryz.ntmps280 fun w=>?_;refine aK 2 [] ?_;refine eG 0 fun b1=>?_;refine aV 1 U T.zero190 fun b2=>?_;refine aS 6 [0] ?_;refine cU 2 U (zO _ _ _ _ _ sV sU sV) fun v1 G1 Ho1 hle1 hp=>?_;obtain ⟨tn1,rfl,htr1,rfl,rfl⟩:=hp;refine aY 4 [1] ?_;refine cW (.inr U) (Ho:=Hp.only _ []) U (.agg 1 U U T.agg190) (bH _ _) ?_;refine ⟨⟨false && decide (0<tn1),B7 a c 0 1,tn1,c⟩,U,?_,U,U⟩;have e:=htr1.num h.digs ha hc false;rw [aC (by decide),h.abs] at e;exact e
theorem Wj {a b:Nat} (h:pw a<pw b):a<b:=by
 rcases aN a b with h1 | h1
 · exact h1
 have:=Wf h1;omega
theorem JJ {r:List A6} {u m:Int} (h:sY r+pw r.length*u=m):sY (r++[(⟨u % 65536⟩:A6)])+pw (r++[(⟨u % 65536⟩:A6)]).length*(u / 65536)=m:=by
 rw [Bp,aD,gF,zN];have:=JH (pw r.length) u;show sY r+pw r.length*(u % 65536)+65536*pw r.length*(u / 65536)=m;omega
theorem RN {r:List A6} {u m:Int} (h:sY r+pw r.length*u=m) (hd:A8 r) (hu:0<u) (hm:m≤9223372036854775808):r.length<4:=by
 have h1:=uM hd;have h2:=fE (show (1:Int)≤u by omega) (fN (yU r.length));refine Wj ?_;have h3:pw 4=18446744073709551616:=by unfold pw;decide
 omega
theorem HE (G:A2) (n:Int) (hn:-9223372036854775808≤n∧n≤9223372036854775807) :
 Does Tryz.prog 120 [.int .i64 n] G [] (fun v G' Ho=>∃ r:IV,v=.agg #[.bool r.neg,.slice r.a r.n r.c]∧C3 G' r n∧Ho=[]):=by
 refine D0 Tryz.func120 Tryz.ntmps120 fun w=>?_;refine dK 0 (Row 215 ([]:List A6) []) ?_;by_cases hneg:n<0
 · refine aK 2 [] ?_;refine aV 1 U T.zero190 fun b1=>?_;refine aS 5 [] ?_;refine aZ (lS U T.u214 U) ?_;refine aS 13 [1] ?_;refine aZ (nI U) ?_;refine bG 10 [] ?_;refine kY 3 U (show _=Value.int .u64 (-n) by rw [RG ⟨hn.1,hneg⟩]) ?_;refine fY (ι:=Int×List A6×(J0 Addr×Nat×List Value)) (fun (u,r,(o,d,j))=>([(3,.int .u64 u),(4,.slice o r.length d),(2,.pointer (some ⟨b1,0,none⟩)),(0,.int .i64 n)],[(0,o.map (·.block),Row 215 r j),(1,some b1,.cells #[.bool Bool.false,.slice none 0 0] 190)])) (fun (u,r,(o,d,j))=>0≤u∧u≤9223372036854775808∧A8 r∧sY r+pw r.length*u=n.natAbs∧r.length≤4∧A3 o d r j) (fun (u,r,(o,d,j))=>u.toNat) ((-n,[],(none,0,[]))) (⟨by omega,by omega,qT,by rw [uX,cD,Ju];omega,by decide,dN⟩) ⟨U,U,U,U,I3⟩ ⟨U,U,I3⟩ fun ⟨u,r,(o,d,j)⟩=>fun hk=>?_;obtain ⟨hu0,hu1,hdr,hv,hrl,hob⟩:=hk;by_cases hu:0<u
   · have hl4:=RN hv hdr hu sU;refine aK 15 [1] ?_;refine aZ (kU U U sU) ?_;refine aZ (pJ U T.u215 U sU) ?_;refine eH (α:=A6) 2 [⟨u % 65536⟩] U T.sl123 T.el215 U U U U U fun b2=>?_;refine iP (α:=A6) 0 T.sl123 T.el215 (eP 2 U) fun a1 c1 junk1 ho1=>?_;refine aS 5 [] ?_;refine aZ (qY U U sU) ?_;refine aY 3 [] ?_;refine cO ((u / 65536,_,(a1,c1,junk1))) ?_ ?_
     · exact ⟨by omega,by omega,Bq hdr _,JJ hv,by rw [aD];show r.length+1≤4;omega,ho1⟩
     show (u / 65536).toNat<u.toNat;omega
   have hu:u=0:=sU;subst hu;rw [cA,dV] at hv;refine aK 18 [0] ?_;have hcap:=hob.le;refine iF 0 U hob fun G1 hle1 hA=>?_;refine cU 2 U (zO _ _ _ _ _ sV sU sV) fun v2 G2 Ho2 hle2 hp=>?_;obtain ⟨tn2,rfl,htr2,rfl,rfl⟩:=hp;refine aY 4 [1] ?_;refine cW (.inr U) (Ho:=Hp.only _ []) U (.agg 1 U U T.agg190) (bH _ _) ?_;refine ⟨⟨decide (n<0) && decide (0<tn2),B7 o d 0 1,tn2,d⟩,U,?_,U⟩;have e:=htr2.num hdr hA hcap (decide (n<0));have e2:(if decide (n<0)=true then -sY r else sY r)=n:=by
    rw [hv];by_cases h:n<0
    · rw [aE (by simpa using h)];omega
    rw [aC (by simpa using h)];omega
   rw [e2] at e;exact e
 refine aK 2 [] ?_;refine aV 1 U T.zero190 fun b1=>?_;refine aS 5 [] ?_;refine aZ (mP U T.u214 U sU) ?_;refine bG 20 [0] ?_;refine fY (ι:=Int×List A6×(J0 Addr×Nat×List Value)) (fun (u,r,(o,d,j))=>([(3,.int .u64 u),(4,.slice o r.length d),(2,.pointer (some ⟨b1,0,none⟩)),(0,.int .i64 n)],[(0,o.map (·.block),Row 215 r j),(1,some b1,.cells #[.bool Bool.false,.slice none 0 0] 190)])) (fun (u,r,(o,d,j))=>0≤u∧u≤9223372036854775808∧A8 r∧sY r+pw r.length*u=n.natAbs∧r.length≤4∧A3 o d r j) (fun (u,r,(o,d,j))=>u.toNat) ((n,[],(none,0,[]))) (⟨by omega,by omega,qT,by rw [uX,cD,Ju];omega,by decide,dN⟩) ⟨U,U,U,U,I3⟩ ⟨U,U,I3⟩ fun ⟨u,r,(o,d,j)⟩=>fun hk=>?_;obtain ⟨hu0,hu1,hdr,hv,hrl,hob⟩:=hk;by_cases hu:0<u
 · have hl4:=RN hv hdr hu sU;refine aK 15 [1] ?_;refine aZ (kU U U sU) ?_;refine aZ (pJ U T.u215 U sU) ?_;refine eH (α:=A6) 2 [⟨u % 65536⟩] U T.sl123 T.el215 U U U U U fun b2=>?_;refine iP (α:=A6) 0 T.sl123 T.el215 (eP 2 U) fun a1 c1 junk1 ho1=>?_;refine aS 5 [] ?_;refine aZ (qY U U sU) ?_;refine aY 3 [] ?_;refine cO ((u / 65536,_,(a1,c1,junk1))) ?_ ?_
   · exact ⟨by omega,by omega,Bq hdr _,JJ hv,by rw [aD];show r.length+1≤4;omega,ho1⟩
   show (u / 65536).toNat<u.toNat;omega
 have hu:u=0:=sU;subst hu;rw [cA,dV] at hv;refine aK 18 [0] ?_;have hcap:=hob.le;refine iF 0 U hob fun G1 hle1 hA=>?_;refine cU 2 U (zO _ _ _ _ _ sV sU sV) fun v2 G2 Ho2 hle2 hp=>?_;obtain ⟨tn2,rfl,htr2,rfl,rfl⟩:=hp;refine aY 4 [1] ?_;refine cW (.inr U) (Ho:=Hp.only _ []) U (.agg 1 U U T.agg190) (bH _ _) ?_;refine ⟨⟨decide (n<0) && decide (0<tn2),B7 o d 0 1,tn2,d⟩,U,?_,U⟩;have e:=htr2.num hdr hA hcap (decide (n<0));have e2:(if decide (n<0)=true then -sY r else sY r)=n:=by
  rw [hv];by_cases h:n<0
  · rw [aE (by simpa using h)];omega
  rw [aC (by simpa using h)];omega
 rw [e2] at e;exact e
theorem jh (G:A2) (n1 n2:Bool) (a b:J0 Addr) (ca cb:Nat) (la lb:List A6) (x y:Int) (ha:Arr G a la) (hb:Arr G b lb) (hx:C0 n1 la x) (hy:C0 n2 lb y) (h1:la.length≤1073741824) (h2:lb.length≤1073741824) :
 Does Tryz.prog 267 [.agg #[.bool n1,.slice a la.length ca],.agg #[.bool n2,.slice b lb.length cb]] G [] (fun v G' Ho=>∃ r:IV,v=.agg #[.bool r.neg,.slice r.a r.n r.c]∧C3 G' r (x+y)∧Ho=[]):=by
 have da:=hx.digs;have db:=hy.digs;have ta:=hx.top;have tb:=hy.top;refine D0 Tryz.func267 Tryz.ntmps267 fun w=>?_;by_cases hs:n1=n2
 · refine aK 2 [] ?_;refine eG 0 fun b1=>?_;refine eG 1 fun b2=>?_;refine aV 2 U T.zero190 fun b3=>?_;refine aS 9 [0,1] ?_;refine aZ (Pd T.u4 U U) ?_;refine bG 4 [1] ?_;refine dL [0,1,2] [(2,8)] T.mixed [[0],[1,0],[2],[3,0],[4],[5,1]] ?_;refine dB 6 ?_;refine cU 3 U (qt _ _ _ _ _ _ _ sV sV sV sV sV sV) fun v1 G1 Ho1 hle1 hp=>?_;obtain ⟨po1,pc1,pr1,pj1,rfl,hpo1,rfl,rfl,hpd1,hpv1,hpl1⟩:=hp;refine cY 7 ?_;have hcap:=hpo1.le;refine iF 3 U hpo1 fun G9 hle9 hA=>?_;refine cU 4 U (zO _ _ _ _ _ sV sU sV) fun v2 G2 Ho2 hle2 hp=>?_;obtain ⟨tn2,rfl,htr2,rfl,rfl⟩:=hp;refine cY 8 ?_;refine aB 1 [2] ?_;refine fB ?_;refine fI 3 [] ?_;refine cW (.inr U) (Ho:=Hp.only _ []) U (.agg 2 U U T.agg190) (bH _ _) ?_;refine ⟨⟨n1 && decide (0<tn2),B7 po1 pc1 0 1,tn2,pc1⟩,U,?_,U⟩;have e:=htr2.num hpd1 hA hcap n1;have e2:(if n1=true then -sY pr1 else sY pr1)=x+y:=by
    rw [hpv1,hx.val,hy.val];revert hs;cases n1 <;> cases n2 <;> simp <;> omega
   rw [e2] at e;exact e
 by_cases hle:sY lb≤sY la
 · have hcmp:0≤vG (sY la) (sY lb):=by
    rcases Int.lt_or_eq_of_le hle with h | h
    · rw [Jy h];decide
    rw [Zh h.symm];decide
   have hll:lb.length≤la.length:=by
    rcases aN la.length lb.length with h | h
    · have:=Ca da db tb h;omega
    exact h
   refine aK 2 [] ?_;refine eG 0 fun b1=>?_;refine eG 1 fun b2=>?_;refine aV 2 U T.zero190 fun b3=>?_;refine aS 9 [0,1] ?_;refine aZ (Pd T.u4 U U) ?_;refine aS 12 [0,0,1] ?_;refine cZ U (RM _ _ _ _ _ _ _ sV sV sV sV sV sV sV sV) ?_;refine bG 5 [1] ?_;refine dL [0,1,2] [(2,8)] T.mixed [[0],[1,0],[2],[3,0],[4],[5,1]] ?_;refine dB 6 ?_;refine cU 3 U (cz _ _ _ _ _ _ _ sV sV sV sV sV sV sV) fun v1 G1 Ho1 hle1 hp=>?_;obtain ⟨po1,pc1,pr1,pj1,rfl,hpo1,rfl,rfl,hpd1,hpv1,hpl1⟩:=hp;refine cY 7 ?_;have hcap:=hpo1.le;refine iF 3 U hpo1 fun G9 hle9 hA=>?_;refine cU 4 U (zO _ _ _ _ _ sV sU sV) fun v2 G2 Ho2 hle2 hp=>?_;obtain ⟨tn2,rfl,htr2,rfl,rfl⟩:=hp;refine cY 8 ?_;refine aB 1 [2] ?_;refine fB ?_;refine fI 3 [] ?_;refine cW (.inr U) (Ho:=Hp.only _ []) U (.agg 2 U U T.agg190) (bH _ _) ?_;refine ⟨⟨n1 && decide (0<tn2),B7 po1 pc1 0 1,tn2,pc1⟩,U,?_,U⟩;have e:=htr2.num hpd1 hA hcap n1;have e2:(if n1=true then -sY pr1 else sY pr1)=x+y:=by
    rw [hpv1,hx.val,hy.val];revert hs;cases n1 <;> cases n2 <;> simp <;> omega
   rw [e2] at e;exact e
 have hcmp:¬0≤vG (sY la) (sY lb):=by rw [Jx sU];decide
 have hge9:sY la≤sY lb:=sU;have hll:la.length≤lb.length:=by
  rcases aN lb.length la.length with h | h
  · have:=Ca db da ta h;omega
  exact h
 refine aK 2 [] ?_;refine eG 0 fun b1=>?_;refine eG 1 fun b2=>?_;refine aV 2 U T.zero190 fun b3=>?_;refine aS 9 [0,1] ?_;refine aZ (Pd T.u4 U U) ?_;refine aS 12 [0,0,1] ?_;refine cZ U (RM _ _ _ _ _ _ _ sV sV sV sV sV sV sV sV) ?_;refine bG 7 [0] ?_;refine dL [0,1,2] [(2,8)] T.mixed [[0],[1,1],[2],[3,1],[4],[5,0]] ?_;refine dB 6 ?_;refine cU 3 U (cz _ _ _ _ _ _ _ sV sV sV sV sV sV sV) fun v1 G1 Ho1 hle1 hp=>?_;obtain ⟨po1,pc1,pr1,pj1,rfl,hpo1,rfl,rfl,hpd1,hpv1,hpl1⟩:=hp;refine cY 7 ?_;have hcap:=hpo1.le;refine iF 3 U hpo1 fun G9 hle9 hA=>?_;refine cU 4 U (zO _ _ _ _ _ sV sU sV) fun v2 G2 Ho2 hle2 hp=>?_;obtain ⟨tn2,rfl,htr2,rfl,rfl⟩:=hp;refine cY 8 ?_;refine aB 1 [2] ?_;refine fB ?_;refine fI 2 [] ?_;refine cW (.inr U) (Ho:=Hp.only _ []) U (.agg 2 U U T.agg190) (bH _ _) ?_;refine ⟨⟨n2 && decide (0<tn2),B7 po1 pc1 0 1,tn2,pc1⟩,U,?_,U⟩;have e:=htr2.num hpd1 hA hcap n2;have e2:(if n2=true then -sY pr1 else sY pr1)=x+y:=by
  rw [hpv1,hx.val,hy.val];revert hs;cases n1 <;> cases n2 <;> simp <;> omega
 rw [e2] at e;exact e
theorem qz (G:A2) (n1 n2:Bool) (a b:J0 Addr) (ca cb:Nat) (la lb:List A6) (x y:Int) (ha:Arr G a la) (hb:Arr G b lb) (hx:C0 n1 la x) (hy:C0 n2 lb y) (h1:la.length≤1073741824) (h2:lb.length≤1073741824) (hcb:lb.length≤cb) :
 Does Tryz.prog 281 [.agg #[.bool n1,.slice a la.length ca],.agg #[.bool n2,.slice b lb.length cb]] G [] (fun v G' Ho=>∃ r:IV,v=.agg #[.bool r.neg,.slice r.a r.n r.c]∧C3 G' r (x - y)∧Ho=[]):=by
 refine D0 Tryz.func281 Tryz.ntmps281 fun w=>?_;refine aK 2 [] ?_;refine eG 0 fun b1=>?_;refine eG 1 fun b2=>?_;refine aV 2 U T.zero190 fun b3=>?_;refine bG 3 [] ?_;refine dL [0,1,2] [(2,4)] T.mixed [[0,0],[1,1]] ?_;refine dB 2 ?_;refine cU 3 U (qw _ _ _ _ _ _ sV sV sV sV) fun v1 G1 Ho1 hle1 hp=>?_;obtain ⟨nr1,rfl,hnr1,rfl,rfl⟩:=hp;refine cY 3 ?_;obtain ⟨rn,ra,rk,rc⟩:=nr1;obtain ⟨l,hl,hlc,hA,hI⟩:=hnr1;simp only at hl hlc hA hI;subst hl;have hll:l.length≤lb.length:=hI.len (by
  have:=yQ hy.digs;rw [hy.abs] at this;omega)
 refine cU 20 U (jh _ _ _ _ _ _ _ _ _ _ _ ha hA hx hI h1 sU) fun v2 G2 Ho2 hle2 hp=>?_;obtain ⟨r2,rfl,hr2,rfl⟩:=hp;refine cY 4 ?_;refine aB 1 [2] ?_;refine fB ?_;refine fI 2 [] ?_;refine cW (.inr U) (Ho:=Hp.only _ []) U (.agg 2 U U T.agg190) (bH _ _) ?_;refine ⟨r2,U,?_,U⟩;rw [Int.sub_eq_add_neg];exact hr2
theorem JK (G:A2) (x y:IV) (zx zy:Int) (hx:C3 G x zx) (hy:C3 G y zy) (h1:x.n≤1073741824) (h2:y.n≤1073741824) :
 Does Tryz.prog 267 [.agg (A0.enc x).toArray,.agg (A0.enc y).toArray] G [] (fun v G' Ho=>∃ r:IV,v=.agg (A0.enc r).toArray∧C3 G' r (zx+zy)∧Ho=[]):=by
 obtain ⟨n1,a,k1,ca⟩:=x;obtain ⟨n2,b,k2,cb⟩:=y;obtain ⟨la,hl,hlc,hA,hI⟩:=hx;obtain ⟨lb,hl',hlc',hA',hI'⟩:=hy;simp only at hl hlc hA hI hl' hlc' hA' hI' h1 h2;subst hl hl';exact jh G n1 n2 a b ca cb la lb zx zy hA hA' hI hI' h1 h2
theorem JL (G:A2) (x y:IV) (zx zy:Int) (hx:C3 G x zx) (hy:C3 G y zy) (h1:x.n≤1073741824) (h2:y.n≤1073741824) :
 Does Tryz.prog 167 [.agg (A0.enc x).toArray,.agg (A0.enc y).toArray] G [] (fun v G' Ho=>v=.int .i64 (vG zx zy)∧G'=G∧Ho=[]):=by
 obtain ⟨n1,a,k1,ca⟩:=x;obtain ⟨n2,b,k2,cb⟩:=y;obtain ⟨la,hl,hlc,hA,hI⟩:=hx;obtain ⟨lb,hl',hlc',hA',hI'⟩:=hy;simp only at hl hlc hA hI hl' hlc' hA' hI' h1 h2;subst hl hl';exact qu G n1 n2 a b ca cb la lb zx zy hA hA' hI hI' h1 h2
end
theorem Jz:∀ (l:List A6) (k:Nat) (d:A6),k<l.length→sY (l.set k d)=sY l+pw k*(d.v - dg l k)
 | [],k,d,h=>by simp at h
 | x :: l,0,d,_=>by
   rw [List.set_cons_zero,vV,vV,Ju];show _=_+1*(d.v - x.v);omega
 | x :: l,k+1,d,h=>by
   have ih:=Jz l k d (by simpa using h);have e:dg (x :: l) (k+1)=dg l k:=by unfold dg;rw [aG,aG,iD]
   rw [List.set_cons_succ,vV,vV,ih,zN,e,eV,←bT];omega
theorem Du {l:List A6} (h:A8 l) (k:Nat) {s:Int} (hs:0≤s∧s<65536):A8 (l.set k ⟨s⟩):=fun d hd=>by
 rcases eM hd with h1 | h1
 · exact h d h1
 subst h1;exact hs
theorem CH {r lb:List A6} {i j:Nat} {c s x A:Int} (hk:i+j<r.length) (hv:sY r+pw (i+j)*c=A+pw i*(x*sY (lb.take j))) (hs:s=c+dg r (i+j)+x*dg lb j) :
 sY (r.set (i+j) ⟨s % 65536⟩)+pw (i+(j+1))*(s / 65536)=A+pw i*(x*sY (lb.take (j+1))):=by
 rw [Jz r (i+j) ⟨s % 65536⟩ hk,wK,←kR,zN];have h1:=JH (pw (i+j)) s;have h2:pw (i+j)*s=pw (i+j)*c+pw (i+j)*dg r (i+j)+pw (i+j)*(x*dg lb j):=by rw [hs,eV,eV]
 have h3:pw i*(x*(sY (lb.take j)+pw j*dg lb j))=pw i*(x*sY (lb.take j))+pw (i+j)*(x*dg lb j):=by
  rw [eV,eV,HC];congr 1;rw [bT,←bT x,dH x (pw j),bT]
 have h4:pw (i+j)*(s % 65536 - dg r (i+j))=pw (i+j)*(s % 65536) - pw (i+j)*dg r (i+j):=oZ _ _ _;show sY r+pw (i+j)*(s % 65536 - dg r (i+j))+65536*pw (i+j)*(s / 65536)=_;rw [h3,h4];omega
theorem JM {la lb:List A6} {i j:Nat} {v:Int} (hj:lb.length≤j) (h:v=sY (la.take i)*sY lb+pw i*(dg la i*sY (lb.take j))):v=sY (la.take (i+1))*sY lb:=by
 rw [h,vY hj,wK,pA,bT]
theorem dh {a b c d:Int} (ha:0≤a) (hb:0≤b) (h1:a<c) (h2:b<d):a*b<c*d:=by
 have e1:a*b≤a*d:=fE (fN h2) ha;have e2:a*d<c*d:=Int.mul_lt_mul_of_pos_right h1 sU;omega
theorem MY {la lb r:List A6} {i j:Nat} {c:Int} (da:A8 la) (db:A8 lb) (hi:i<la.length) (hj:lb.length≤j) (hdr:A8 r) (hc:0<c) (hv:sY r+pw (i+j)*c=sY (la.take i)*sY lb+pw i*(dg la i*sY (lb.take j))):j≤lb.length:=by
 have h1:=JM hj hv;have h2:=yQ (da.take (i+1));rw [bM,fW sU] at h2;have h3:=dh (uM (da.take (i+1))) (uM db) h2 (yQ db);rw [←HC] at h3;have h4:=uM hdr;have h5:=fE (show (1:Int)≤c by omega) (fN (yU (i+j)));have h6:pw (i+j)<pw (i+1+lb.length):=sU;have:=Wj h6;omega
theorem CI {x y:Int} (hx:0≤x∧x<65536) (hy:0≤y∧y<65536):0≤x*y∧x*y≤4294836225:=by
 refine ⟨Int.mul_nonneg hx.1 hy.1,?_⟩;have h1:x*y≤65535*y:=iT sU hy.1;omega
section
attribute [local irreducible] sY pw vG
theorem jl (G:A2) (n1 n2:Bool) (a b:J0 Addr) (ca cb:Nat) (la lb:List A6) (x y:Int) (ha:Arr G a la) (hb:Arr G b lb) (hx:C0 n1 la x) (hy:C0 n2 lb y) (h1:la.length≤536870912) (h2:lb.length≤536870912) :
 Does Tryz.prog 165 [.agg #[.bool n1,.slice a la.length ca],.agg #[.bool n2,.slice b lb.length cb]] G [] (fun v G' Ho=>∃ r:IV,v=.agg #[.bool r.neg,.slice r.a r.n r.c]∧C3 G' r (x*y)∧Ho=[]):=by
 have da:=hx.digs;have db:=hy.digs;refine D0 Tryz.func165 Tryz.ntmps165 fun w=>?_;refine aK 2 [] ?_;refine eG 0 fun b1=>?_;refine eG 1 fun b2=>?_;refine aV 2 U T.zero190 fun b3=>?_;refine aS 12 [0,1] ?_;refine gM (α:=A6) 3 U T.sl123 T.el215 U U sU sU fun b4=>?_;refine bG 10 [] ?_;obtain ⟨N,hN⟩:∃ N,N=la.length+lb.length+1:=⟨_,U⟩
 have hM:((la.length:Int)+(lb.length:Int)+1).toNat=N:=sU;rw [hM];have hown:∀ r:List A6,r.length=N→A3 (some ⟨b4,0,none⟩) N r []:=fun r hr=>.inr ⟨b4,U,by rw [hr];rfl,by omega,by simp only [maxLen];omega⟩;refine kY 5 U (show _=Value.slice (some ⟨b4,0,none⟩) (List.replicate N (default:A6)).length N by rw [aM]) ?_;refine gZ (ι:=Nat×List A6) (fun (i,r)=>([(6,.int .i64 (i:Int)),(5,.slice (some ⟨b4,0,none⟩) r.length N),(4,.pointer (some (Addr.mk b3 0 none))),(3,.pointer (some ⟨b2,0,none⟩)),(2,.pointer (some ⟨b1,0,none⟩))],[(3,some b4,Row 215 r []),(2,some b3,.cells #[.bool Bool.false,.slice none 0 0] 190),(1,some b2,.cells #[.bool n2,.slice b (List.length lb) cb] 190),(0,some b1,.cells #[.bool n1,.slice a (List.length la) ca] 190)])) (fun (i,r)=>i≤la.length∧r.length=N∧A8 r∧sY r=sY (la.take i)*sY lb) (fun (i,r)=>la.length - i) ((0,List.replicate N (default:A6))) (⟨aP _,aM,rM N,by rw [dP,uX,eR];exact Bz N⟩) fun ⟨i,r⟩=>fun hk=>?_;obtain ⟨hi,hrN,hdr,hv⟩:=hk;rcases aN i la.length with hia | hia
 · have hxi:0≤(la[(i:Int).toNat]?.getD default).v∧(la[(i:Int).toNat]?.getD default).v<65536:=Db da hia;refine bJ 26 [0,1] ?_;refine gZ (ι:=Nat×Int×List A6) (fun (j,c,s)=>([(8,.int .i64 (j:Int)),(7,.int .u64 c),(5,.slice (some ⟨b4,0,none⟩) s.length N),(2,.pointer (some ⟨b1,0,none⟩)),(6,.int .i64 (↑i:Int)),(4,.pointer (some (Addr.mk b3 0 none))),(3,.pointer (some ⟨b2,0,none⟩))],[(3,some b4,Row 215 s []),(2,some b3,.cells #[.bool Bool.false,.slice none 0 0] 190),(1,some b2,.cells #[.bool n2,.slice b (List.length lb) cb] 190),(0,some b1,.cells #[.bool n1,.slice a (List.length la) ca] 190)])) (fun (j,c,s)=>0≤c∧c≤65535∧s.length=N∧A8 s∧sY s+pw (i+j)*c=sY (la.take i)*sY lb+pw i*(dg la i*sY (lb.take j))∧j≤lb.length+1) (fun (j,c,s)=>lb.length+1 - j) ((0,0,r)) (⟨by decide,by decide,hrN,hdr,by rw [cA,dP,uX,cA,cA,dV,dV];exact hv,aP _⟩) fun ⟨j,c,s⟩=>fun hk=>?_;obtain ⟨hc0,hc1,hsN,hds,hvs,hjl⟩:=hk;have hos:=hown s hsN;have hbnd:lb.length≤j→0<c→j≤lb.length:=fun h1 h2=>MY da db hia h1 hds h2 hvs;have ekk:((i:Int)+(j:Int)).toNat=i+j:=sU;rcases aN j lb.length with hjb | hjb
   · have hyj:0≤(lb[(j:Int).toNat]?.getD default).v∧(lb[(j:Int).toNat]?.getD default).v<65536:=Db db hjb;have hxy:=CI hxi hyj;have hsk:0≤(s[((i:Int)+(j:Int)).toNat]?.getD default).v∧(s[((i:Int)+(j:Int)).toNat]?.getD default).v<65536:=hds.at sU;refine aK 9 [1] ?_;refine rQ 30 ?_;refine aS 17 [1] ?_;refine gY (α:=A6) T.sl123 ?_;refine jS 3 0 T.one215 ?_;refine aZ (mP U T.u214 U sU) ?_;refine aZ (sI U U sU) ?_;refine bG 14 [1,1] ?_;refine dL [0,1,2,3] [] T.mixed [[0],[1],[2,0],[3]] ?_;refine kE (α:=A6) 4 T.sl123 ?_;refine rG 5 [0] 0 T.one215 ?_;refine fH 6 [] U (mP U T.u214 U sU) ?_;refine eO [[7],[8,1],[9]] ?_;refine kE (α:=A6) 10 T.sl123 ?_;refine rG 11 [0] 0 T.one215 ?_;refine fH 12 [] U (mP U T.u214 U sU) ?_;refine fH 13 [] U (We U U xL) ?_;refine fH 14 [] U (sI U U sU) ?_;refine eO [[15]] ?_;refine eU ?_;refine oR 8 [] ?_;refine aZ (kU U U sU) ?_;refine aZ (pJ U T.u215 U sU) ?_;refine gY (α:=A6) T.sl123 ?_;refine dJ (z:=_) 3 T.size215 U U U sV sU U fun ho1=>?_;refine aS 4 [] ?_;refine aZ (qY U U sU) ?_;refine aY 9 [] ?_;rw [ekk] at ⊢ hsk;refine dW 5 U (show _=Value.slice (some ⟨b4,0,none⟩) (s.set (i+j) (⟨(c+(s[i+j]?.getD default).v+(la[(i:Int).toNat]?.getD default).v*(lb[(j:Int).toNat]?.getD default).v) % 65536⟩:A6)).length N by rw [aI]) ?_;refine cO ((j+1,(c+(s[i+j]?.getD default).v+(la[(i:Int).toNat]?.getD default).v*(lb[(j:Int).toNat]?.getD default).v) / 65536,s.set (i+j) (⟨(c+(s[i+j]?.getD default).v+(la[(i:Int).toNat]?.getD default).v*(lb[(j:Int).toNat]?.getD default).v) % 65536⟩:A6))) ?_ ?_
     · exact ⟨by omega,by omega,by rw [aI];exact hsN,Du hds _ sU,CH sU hvs (by simp only [dg,aG]),by omega⟩
     show lb.length+1 - (j+1)<lb.length+1 - j;omega
   by_cases hcy:0<c
   · have hjle:=hbnd hjb hcy;have hsk:0≤(s[((i:Int)+(j:Int)).toNat]?.getD default).v∧(s[((i:Int)+(j:Int)).toNat]?.getD default).v<65536:=hds.at sU;refine aK 9 [1] ?_;refine iW 30 ?_;refine aS 19 [1] ?_;refine gY (α:=A6) T.sl123 ?_;refine jS 3 0 T.one215 ?_;refine aZ (mP U T.u214 U sU) ?_;refine aZ (sI U U sU) ?_;refine aS 23 [1,0] ?_;refine aZ (kU U U sU) ?_;refine aZ (pJ U T.u215 U sU) ?_;refine gY (α:=A6) T.sl123 ?_;refine dJ (z:=_) 3 T.size215 U U U sV sU U fun ho1=>?_;refine aS 4 [] ?_;refine aZ (qY U U sU) ?_;refine aY 9 [] ?_;rw [ekk] at ⊢ hsk;refine dW 5 U (show _=Value.slice (some ⟨b4,0,none⟩) (s.set (i+j) (⟨(c+(s[i+j]?.getD default).v) % 65536⟩:A6)).length N by rw [aI]) ?_;refine cO ((j+1,(c+(s[i+j]?.getD default).v) / 65536,s.set (i+j) (⟨(c+(s[i+j]?.getD default).v) % 65536⟩:A6))) ?_ ?_
     · exact ⟨by omega,by omega,by rw [aI];exact hsN,Du hds _ sU,CH sU hvs (by rw [Md hjb,cA,dV];simp only [dg,aG]),by omega⟩
     show lb.length+1 - (j+1)<lb.length+1 - j;omega
   have hc:c=0:=sU;subst hc;rw [cA,dV] at hvs;refine aK 9 [1] ?_;refine iW 30 ?_;refine aY 19 [0] ?_;refine cO ((i+1,s)) ?_ ?_
   · exact ⟨by omega,hsN,hds,JM hjb hvs⟩
   show la.length - (i+1)<la.length - i;omega
 have hor:=hown r hrN;rw [vY hia] at hv;refine aK 22 [0,0,0,1] ?_;refine aZ (Yr T.u4 U U) ?_;refine aB 1 [] ?_;have hcap:=hor.le;refine iF 3 U hor fun G9 hle9 hA=>?_;refine cU 4 U (zO _ _ _ _ _ sV sU sV) fun v1 G1 Ho1 hle1 hp=>?_;obtain ⟨tn1,rfl,htr1,rfl,rfl⟩:=hp;refine aY 4 [2] ?_;refine cW (.inr U) (Ho:=Hp.only _ []) U (.agg 2 U U T.agg190) (bH _ _) ?_;refine ⟨⟨decide (n1≠n2) && decide (0<tn1),B7 (some ⟨b4,0,none⟩) N 0 1,tn1,N⟩,U,?_,U⟩;have e:=htr1.num hdr hA hcap (decide (n1≠n2));have e2:(if decide (n1≠n2)=true then -sY r else sY r)=x*y:=by
  rw [hv,hx.val,hy.val];cases n1 <;> cases n2 <;> simp [hU,jF]
 rw [e2] at e;exact e
theorem JN (G:A2) (x y:IV) (zx zy:Int) (hx:C3 G x zx) (hy:C3 G y zy) (h1:x.n≤536870912) (h2:y.n≤536870912) :
 Does Tryz.prog 165 [.agg (A0.enc x).toArray,.agg (A0.enc y).toArray] G [] (fun v G' Ho=>∃ r:IV,v=.agg (A0.enc r).toArray∧C3 G' r (zx*zy)∧Ho=[]):=by
 obtain ⟨n1,a,k1,ca⟩:=x;obtain ⟨n2,b,k2,cb⟩:=y;obtain ⟨la,hl,hlc,hA,hI⟩:=hx;obtain ⟨lb,hl',hlc',hA',hI'⟩:=hy;simp only at hl hlc hA hI hl' hlc' hA' hI' h1 h2;subst hl hl';exact jl G n1 n2 a b ca cb la lb zx zy hA hA' hI hI' h1 h2
end
theorem rb (G:A2) (op:Int):Does Tryz.prog 161 [.int .i64 op] G [] (fun v G' Ho=>v=.bool (decide (op=3∨op=4))∧G'=G∧Ho=[]):=by
 refine D0 Tryz.func161 Tryz.ntmps161 fun w=>?_;refine aK 10 [] ?_;apply cJ 3 5 8 U;intro hg1;refine aB 5 [] ?_;exact cC 3 0;intro hg1;refine aB 3 [] ?_;exact cC 3 0;refine aY 4 [] ?_;refine cG ?_;exact ⟨by simp,rfl,rfl⟩
def tL (op c:Int):Bool:=
 if op=5∨op=6 then decide (c≠0∧-512≤c∧c≤512) else if op=7∨op=8 then decide (1≤c∧c≤64) else decide (c=0)
theorem rg (G:A2) (i:I5):Does Tryz.prog 162 [.agg (A0.enc i).toArray] G [] (fun v G' Ho=>v=.bool (decide (tL i.op i.c=true))∧G'=G∧Ho=[]):=by
 refine D0 Tryz.func162 Tryz.ntmps162 fun w=>?_;refine aK 2 [] ?_;refine eG 0 fun b1=>?_;refine bG 18 [0] ?_;refine cF (fun hc1=>?_) fun hc1=>?_;refine aK 9 [1,0] ?_;apply bS 4 11 15 U;intro hg1;refine aB 7 [0] ?_;exact cC 4 0;intro hg1;refine aB 4 [] ?_;exact cC 4 0;refine aB 1 [] ?_;apply bS 4 16 20 U;intro hg1;refine aB 7 [0] ?_;exact cC 4 0;intro hg1;refine aB 4 [] ?_;exact cC 4 0;refine aY 6 [] ?_;refine cG ?_;rotate_left;refine bJ 5 [] ?_;refine cF (fun hc2=>?_) fun hc2=>?_;refine aK 6 [0] ?_;apply bS 4 11 15 U;intro hg1;refine aB 7 [0] ?_;exact cC 4 0;intro hg1;refine aB 4 [] ?_;exact cC 4 0;refine aB 1 [] ?_;apply bS 4 16 20 U;intro hg1;refine aB 7 [0] ?_;exact cC 4 0;intro hg1;refine aB 4 [] ?_;exact cC 4 0;refine aY 6 [] ?_;refine cG ?_;rotate_left;refine bJ 7 [] ?_;refine cF (fun hc3=>?_) fun hc3=>?_;refine aK 9 [1,0] ?_;apply bS 4 27 31 U;intro hg1;refine aB 7 [0] ?_;exact cC 4 0;intro hg1;refine aB 4 [] ?_;exact cC 4 0;refine aY 6 [] ?_;refine cG ?_;rotate_left;refine bJ 5 [] ?_;refine cF (fun hc4=>?_) fun hc4=>?_;refine aK 6 [0] ?_;apply bS 4 27 31 U;intro hg1;refine aB 7 [0] ?_;exact cC 4 0;intro hg1;refine aB 4 [] ?_;exact cC 4 0;refine aY 6 [] ?_;refine cG ?_;rotate_left;refine bE 12 [0] ?_;refine cG ?_;rotate_left;all_goals refine ⟨?_,U,U⟩
 all_goals simp [tL, *]
 all_goals first | (split <;> first | rfl | omega) | omega | (simp only [Bool.and_assoc];rfl) | (simp only [Bool.and_assoc]) | skip
def tM (i:I5):List Int:=if i.op=3∨i.op=4 then [i.a,i.b] else if 1≤i.op∧i.op≤8 then [i.a] else []
theorem MZ (G:A2) (i:I5):Does Tryz.prog 83 [.agg (A0.enc i).toArray] G [] (fun v G' Ho=>∃ a c junk,v=.slice a (tM i).length c∧A3 a c (tM i) junk∧Ho=[(1,a.map (·.block),Row 3 (tM i) junk)]∧G'=G):=by
 refine D0 Tryz.func83 Tryz.ntmps83 fun w=>?_;refine aK 2 [] ?_;refine eG 0 fun b1=>?_;refine bG 18 [0] ?_;refine cF (fun hc1=>?_) fun hc1=>?_;refine aK 9 [1,0,0] ?_;refine eH (α:=Int) 1 [(Go.Sl.Instr.a i),(Go.Sl.Instr.b i)] U T.sl24 T.el3 U U U U U fun b2=>?_;refine aY 6 [] ?_;rotate_left;refine bJ 5 [] ?_;refine cF (fun hc2=>?_) fun hc2=>?_;refine aK 6 [0,0] ?_;refine eH (α:=Int) 1 [(Go.Sl.Instr.a i),(Go.Sl.Instr.b i)] U T.sl24 T.el3 U U U U U fun b2=>?_;refine aY 6 [] ?_;rotate_left;refine bJ 7 [] ?_;refine cF (fun hc3=>?_) fun hc3=>?_;refine aK 7 [1,0] ?_;refine eH (α:=Int) 1 [(Go.Sl.Instr.a i)] U T.sl24 T.el3 U U U U U fun b2=>?_;refine aY 6 [] ?_;rotate_left;refine bJ 6 [] ?_;refine cF (fun hc4=>?_) fun hc4=>?_;refine aK 7 [1,0] ?_;refine eH (α:=Int) 1 [(Go.Sl.Instr.a i)] U T.sl24 T.el3 U U U U U fun b2=>?_;refine aY 6 [] ?_;rotate_left;refine bJ 6 [] ?_;refine cF (fun hc5=>?_) fun hc5=>?_;refine aK 7 [1,0] ?_;refine eH (α:=Int) 1 [(Go.Sl.Instr.a i)] U T.sl24 T.el3 U U U U U fun b2=>?_;refine aY 6 [] ?_;rotate_left;refine bJ 6 [] ?_;refine cF (fun hc6=>?_) fun hc6=>?_;refine aK 7 [1,0] ?_;refine eH (α:=Int) 1 [(Go.Sl.Instr.a i)] U T.sl24 T.el3 U U U U U fun b2=>?_;refine aY 6 [] ?_;rotate_left;refine bJ 6 [] ?_;refine cF (fun hc7=>?_) fun hc7=>?_;refine aK 7 [1,0] ?_;refine eH (α:=Int) 1 [(Go.Sl.Instr.a i)] U T.sl24 T.el3 U U U U U fun b2=>?_;refine aY 6 [] ?_;rotate_left;refine bJ 5 [] ?_;refine cF (fun hc8=>?_) fun hc8=>?_;refine aK 4 [0] ?_;refine eH (α:=Int) 1 [(Go.Sl.Instr.a i)] U T.sl24 T.el3 U U U U U fun b2=>?_;refine aY 6 [] ?_;rotate_left;refine bE 9 [] ?_;rotate_left
 rotate_right
 · have h:tM i=[]:=by unfold tM;rw [aC (by omega),aC (by omega)]
   refine Lw 1 (Row 3 ([]:List Int) []) ?_;refine Ar.p1 [1] ?_;rw [h];exact ⟨_,_,_,U,dN,U,U⟩
 all_goals first | refine cW (.inr U) (Ho:=Hp.only _ [1]) U (.tmp U) (bH _ _) ?_
 all_goals first
  | (have h:tM i=[i.a,i.b]:=by unfold tM;rw [aE (by omega)]
     rw [h];exact ⟨_,_,_,U,iJ Vt,U,U⟩)
  | (have h:tM i=[i.a]:=by unfold tM;rw [aC (by omega),aE (by omega)]
     rw [h];exact ⟨_,_,_,U,iJ Vt,U,U⟩)
  | skip
def tH (i:I5) (regs:Int):Bool:=
 decide (1≤i.op∧i.op≤8∧0≤i.to∧i.to<regs∧(i.op=3∨i.op=4∨i.b=0)) && tL i.op i.c && (tM i).all fun r=>decide (0≤r∧r<regs)
theorem Dv {α:Type} [Inhabited α] (p:α→Bool) {l:List α} {k:Nat} (h:k<l.length):(l.take (k+1)).all p=((l.take k).all p && p (l[((k:Nat):Int).toNat]?.getD default)):=by
 have:l.take (k+1)=l.take k++[l[(k:Int).toNat]?.getD default]:=by
  rw [dA,aG,aA h];rfl
 rw [this,List.all_append];simp
theorem rh (G:A2) (i:I5) (regs:Int):Does Tryz.prog 112 [.agg (A0.enc i).toArray,.int .i64 regs] G [] (fun v G' Ho=>v=.bool (decide (tH i regs=true))∧G'=G∧Ho=[]):=by
 refine D0 Tryz.func112 Tryz.ntmps112 fun w=>?_;refine aK 2 [] ?_;refine eG 0 fun b1=>?_;refine aS 10 [0] ?_;apply cJ 4 10 14 U;intro hg1;refine aB 7 [0] ?_;exact cC 4 0;intro hg1;refine aB 4 [] ?_;exact cC 4 0;refine aB 1 [] ?_;apply cJ 4 15 19 U;intro hg1;refine aB 7 [0] ?_;exact cC 4 0;intro hg1;refine aB 4 [] ?_;exact cC 4 0;refine aB 1 [] ?_;apply cJ 5 20 25 U;intro hg1;refine aB 9 [0] ?_;exact cC 5 0;intro hg1;refine aB 5 [] ?_;exact cC 5 0;refine aB 1 [] ?_;apply cJ 10 26 36 U;intro hg1;refine aB 5 [0] ?_;refine cZ U (rb _ _) ?_;refine aB 1 [] ?_;refine aZ (eJ U) ?_;refine aB 2 [] ?_;apply bS 4 31 35 U;intro hg1;refine aB 8 [0] ?_;exact cC 4 0;intro hg1;refine aB 5 [] ?_;exact cC 4 0;refine aB 1 [] ?_;exact cC 7 0;intro hg1;refine aB 5 [] ?_;refine Ra U U U ?_;refine Ra U U U ?_;refine Ra U U U ?_;refine aB 2 [] ?_;exact cC 10 0;refine aB 1 [] ?_;apply cJ 4 37 41 U;intro hg1;refine aB 3 [0] ?_;refine cZ U (rg _ _) ?_;refine aB 1 [] ?_;refine aZ (eJ U) ?_;refine aB 1 [] ?_;exact cC 4 0;intro hg1;refine aB 4 [] ?_;exact cC 4 0;refine bG 2 [] ?_;refine cF (fun hc1=>?_) fun hc1=>?_;refine bE 7 [] ?_;refine cG ?_;rotate_left;refine aK 6 [0] ?_;refine cU 1 U (MZ _ _) fun v1 G1 Ho1 hle1 hp=>?_;obtain ⟨ad1,cd1,junk1,rfl,hoa1,rfl,rfl⟩:=hp;refine bG 5 [] ?_;rotate_left
 · refine ⟨?_,U,U⟩;have:tH i regs=false:=by
    unfold tH;rcases hc1 with ((((h | h) | h) | h) | h) | h
    all_goals first | (rw [bN sU];rfl) | simp [h]
   simp [this]
 have hasks:(tM i).length≤2:=by unfold tM;split <;> (try split) <;> simp
 refine gZ (ι:=Nat) (fun k=>([(45,.int .i64 (k:Int)),(44,.int .i64 (↑(List.length (tM i)):Int)),(43,.slice ad1 (List.length (tM i)) cd1),(1,.int .i64 regs)],[(2,Option.map (fun x=>Go.Addr.block x) ad1,Row (α:=Int) 3 (tM i) (junk1)),(0,some b1,.cells (List.toArray (A0.enc i)) 91)])) (fun k=>k≤(tM i).length∧((tM i).take k).all (fun r=>decide (0≤r∧r<regs))=true) (fun k=>(tM i).length - k) (0) (⟨aP _,U⟩) fun k=>fun hk=>?_;obtain ⟨hk1,hk2⟩:=hk;refine bJ 6 [] ?_;refine cF (fun hc2=>?_) fun hc2=>?_;refine aK 6 [] ?_;refine gY (α:=Int) T.sl24 ?_;refine jS 2 0 T.one3 ?_;refine aS 8 [] ?_;apply cJ 4 51 55 U;intro hg1;refine aB 7 [] ?_;exact cC 4 0;intro hg1;refine aB 4 [] ?_;exact cC 4 0;refine bG 2 [] ?_;refine cF (fun hc3=>?_) fun hc3=>?_;refine bE 11 [] ?_;refine cG ?_;rotate_left;refine bE 7 [] ?_;rotate_left;refine bE 11 [] ?_;refine cG ?_;rotate_left
 · refine ⟨?_,U,U⟩;have hl:k<(tM i).length:=sU;have hx:(tM i)[(k:Int).toNat]?.getD default∈tM i:=by rw [aG,aA hl];simp
   have hf:((tM i).all fun r=>decide (0≤r∧r<regs))=false:=by
    rw [rY];exact ⟨_,hx,by simp only [aO];omega⟩
   have:tH i regs=false:=by unfold tH;rw [hf];simp
   simp [this]
 · refine cO (k+1) ?_ ?_
   · refine ⟨by omega,?_⟩;rw [Dv _ sU,hk2];simp only [nK,aO];omega
   omega
 refine ⟨?_,U,U⟩;have hk:k=(tM i).length:=sU;subst hk;rw [bI] at hk2;have:tH i regs=true:=by
  unfold tH;rw [hk2];simp only [not_or] at hc1;simp only [lZ,aF,aO];refine ⟨by omega,?_⟩;have:=hc1.2;simpa using this
 simp [this]
structure PV where
 ins:Int
 regs:Int
 code:List I5
 outs:List Int
abbrev J1(p:PV)(ac:Option Addr)(cc:Nat)(ao:Option Addr)(co:Nat):Array Value:=#[.int .i64 p.ins,.int .i64 p.regs,.slice ac p.code.length cc,.slice ao p.outs.length co]
def vJ (p:PV):Bool:=decide (1≤p.ins∧p.ins≤p.regs∧p.regs≤128∧p.code.length≤16384∧1≤p.outs.length∧p.outs.length≤128) && p.outs.all fun r=>decide (0≤r∧r<p.regs)
def Cb (p:PV):J0 Nat:=p.code.findIdx? fun i=>!tH i p.regs
def uH (p:PV):Int×Bool:=if vJ p=false then (-1,true) else match Cb p with | some k=>(k,true) | none=>(0,false)
theorem Ri {α:Type} [Inhabited α] {p:α→Bool} {l:List α} {k:Nat} (h:k<l.length) (h1:(l.take k).all p=true) (h2:¬p (l[((k:Nat):Int).toNat]?.getD default)=true):l.findIdx? (fun i=>!p i)=some k:=by
 rw [jT];rw [aG,aA h,dI] at h2;refine ⟨h,by simpa using h2,fun j hj=>?_⟩;have hm:l[j]'(by omega)∈l.take k:=by rw [List.mem_take_iff_getElem];exact ⟨j,by omega,U⟩
 have:=dQ.1 h1 _ hm;simpa using this
theorem Me {α:Type} {p:α→Bool} {l:List α} (h1:l.all p=true):l.findIdx? (fun i=>!p i)=none:=by
 rw [gB];intro x hx;simpa using dQ.1 h1 x hx
theorem jm (G:A2) (p:PV) (ac ao:J0 Addr) (cc co:Nat) (hc:Arr G ac p.code) (ho:Arr G ao p.outs) (h1:p.code.length≤1099511627776) (h2:p.outs.length≤1099511627776) :
 Does Tryz.prog 56 [.agg (J1 p ac cc ao co)] G [] (fun v G' Ho=>v=.tuple #[.int .i64 (uH p).1,.int .i64 (if (uH p).2 then 80 else 0)]∧G'=G∧Ho=[]):=by
 refine D0 Tryz.func56 Tryz.ntmps56 fun w=>?_;refine aK 2 [] ?_;refine eG 0 fun b1=>?_;refine aS 11 [0] ?_;apply cJ 6 11 17 U;intro hg1;refine aB 11 [0,0] ?_;exact cC 6 0;intro hg1;refine aB 6 [] ?_;exact cC 6 0;refine aB 1 [] ?_;apply cJ 4 18 22 U;intro hg1;refine aB 7 [0] ?_;exact cC 4 0;intro hg1;refine aB 4 [] ?_;exact cC 4 0;refine aB 1 [] ?_;apply cJ 5 23 28 U;intro hg1;refine aB 9 [0] ?_;exact cC 5 0;intro hg1;refine aB 5 [] ?_;exact cC 5 0;refine aB 1 [] ?_;apply cJ 5 29 34 U;intro hg1;refine aB 9 [0] ?_;exact cC 5 0;intro hg1;refine aB 5 [] ?_;exact cC 5 0;refine aB 1 [] ?_;apply cJ 5 35 40 U;intro hg1;refine aB 9 [0] ?_;exact cC 5 0;intro hg1;refine aB 5 [] ?_;exact cC 5 0;refine bG 2 [] ?_;refine cF (fun hc1=>?_) fun hc1=>?_;refine bE 8 [] ?_;refine jJ ?_;rotate_left;refine bJ 12 [0] ?_;rotate_left
 · refine ⟨?_,U,U⟩;have:vJ p=false:=by unfold vJ;rw [bN sU];rfl
   simp [uH,this]
 refine gZ (ι:=Nat) (fun k=>([(44,.int .i64 (k:Int)),(43,.int .i64 (↑p.outs.length:Int)),(42,.slice ao p.outs.length co),(1,.pointer (some ⟨b1,0,none⟩))],[(0,some b1,.cells (J1 p ac cc ao co) 26)])) (fun k=>k≤p.outs.length∧(p.outs.take k).all (fun r=>decide (0≤r∧r<p.regs))=true) (fun k=>p.outs.length - k) (0) (⟨aP _,U⟩) fun k=>fun hk=>?_;obtain ⟨hk1,hk2⟩:=hk;refine bJ 6 [] ?_;refine cF (fun hc2=>?_) fun hc2=>?_;refine aK 6 [] ?_;refine gG (α:=Int) T.sl24 ?_;refine kT 0 T.one3 ?_;refine aS 8 [] ?_;apply cJ 5 50 55 U;intro hg1;refine aB 9 [0] ?_;exact cC 5 0;intro hg1;refine aB 5 [] ?_;exact cC 5 0;refine bG 2 [] ?_;refine cF (fun hc3=>?_) fun hc3=>?_;refine bE 12 [] ?_;refine jJ ?_;rotate_left;refine bE 7 [] ?_;rotate_left;refine bJ 15 [0] ?_;rotate_left
 · refine ⟨?_,U,U⟩;have hl:k<p.outs.length:=sU;have hx:p.outs[(k:Int).toNat]?.getD default∈p.outs:=by rw [aG,aA hl];simp
   have hf:(p.outs.all fun r=>decide (0≤r∧r<p.regs))=false:=by
    rw [rY];exact ⟨_,hx,by simp only [aO];omega⟩
   have:vJ p=false:=by unfold vJ;rw [hf,Bool.and_false]
   simp [uH,this]
 · refine cO (k+1) ?_ ?_
   · refine ⟨by omega,?_⟩;rw [Dv _ sU,hk2];simp only [nK,aO];omega
   omega
 have hk:k=p.outs.length:=sU;subst hk;rw [bI] at hk2;have hh:vJ p=true:=by
  unfold vJ;rw [hk2,lZ,aO];omega
 clear hk1 hk2 hc2;refine gZ (ι:=Nat) (fun k=>([(60,.int .i64 (k:Int)),(59,.int .i64 (↑p.code.length:Int)),(58,.slice ac p.code.length cc),(1,.pointer (some ⟨b1,0,none⟩))],[(0,some b1,.cells (J1 p ac cc ao co) 26)])) (fun k=>k≤p.code.length∧(p.code.take k).all (fun i=>tH i p.regs)=true) (fun k=>p.code.length - k) (0) (⟨aP _,U⟩) fun k=>fun hk=>?_;obtain ⟨hk1,hk2⟩:=hk;refine bJ 6 [] ?_;refine cF (fun hc2=>?_) fun hc2=>?_;refine aK 7 [] ?_;refine gG (α:=Instr) T.sl23 ?_;refine mL T.agg91 ?_;refine aV 1 U T.zero91 fun b2=>?_;refine aS 9 [1,1,0] ?_;refine cZ U (rh _ _ _) ?_;refine aZ (eJ U) ?_;refine bG 2 [] ?_;refine cF (fun hc3=>?_) fun hc3=>?_;refine bE 13 [] ?_;refine jJ ?_;rotate_left;refine bE 7 [] ?_;rotate_left;refine bE 12 [] ?_;refine jJ ?_;rotate_left
 · refine ⟨?_,U,U⟩;have hl:k<p.code.length:=sU;have:Cb p=some k:=Ri hl hk2 hc3;simp [uH,hh,this]
 · refine cO (k+1) ?_ ?_
   · refine ⟨by omega,?_⟩;rw [Dv _ sU,hk2];simpa using hc3
   omega
 refine ⟨?_,U,U⟩;have hk:k=p.code.length:=sU;subst hk;rw [bI] at hk2;have:Cb p=none:=Me hk2;simp [uH,hh,this]
def sW (p:PV):Bool:=!(uH p).2
theorem tS (i:I5) (regs:Int):tH i regs=true↔(1≤i.op∧i.op≤8∧0≤i.to∧i.to<regs∧0≤i.a∧i.a<regs)∧
 (if i.op=3∨i.op=4 then 0≤i.b∧i.b<regs∧i.c=0 else i.b=0∧(if i.op=5∨i.op=6 then i.c≠0∧-512≤i.c∧i.c≤512 else if i.op=7∨i.op=8 then 1≤i.c∧i.c≤64 else i.c=0)):=by
 unfold tH tL tM;by_cases h3:i.op=3∨i.op=4
 · have h5:¬(i.op=5∨i.op=6):=sU;have h7:¬(i.op=7∨i.op=8):=sU;simp only [aE h3,aC h5,aC h7,jI,List.all_nil,lZ,aF,aO];omega
 by_cases h1:1≤i.op∧i.op≤8
 · simp only [aC h3,aE h1,jI,List.all_nil,lZ,aF,aO];by_cases h5:i.op=5∨i.op=6
   · simp only [aE h5,aO];omega
   by_cases h7:i.op=7∨i.op=8
   · simp only [aC h5,aE h7,aO];omega
   simp only [aC h5,aC h7,aO];omega
 simp only [aC h3,aC h1,List.all_nil,lZ,aF,aO];constructor <;> (intro h;omega)
theorem ri (G:A2) (i:I5) (regs:Int):Does Tryz.prog 163 [.agg (A0.enc i).toArray,.int .i64 regs] G [] (fun v G' Ho=>v=.bool (decide (tH i regs=true))∧G'=G∧Ho=[]):=by
 refine D0 Tryz.func163 Tryz.ntmps163 fun w=>?_;refine aK 2 [] ?_;refine eG 0 fun b1=>?_;refine aS 10 [0] ?_;apply cJ 4 8 12 U;intro hg1;refine aB 7 [0] ?_;exact cC 4 0;intro hg1;refine aB 4 [] ?_;exact cC 4 0;refine aB 1 [] ?_;apply cJ 4 13 17 U;intro hg1;refine aB 7 [0] ?_;exact cC 4 0;intro hg1;refine aB 4 [] ?_;exact cC 4 0;refine aB 1 [] ?_;apply cJ 5 18 23 U;intro hg1;refine aB 9 [0] ?_;exact cC 5 0;intro hg1;refine aB 5 [] ?_;exact cC 5 0;refine aB 1 [] ?_;apply cJ 4 24 28 U;intro hg1;refine aB 7 [0] ?_;exact cC 4 0;intro hg1;refine aB 4 [] ?_;exact cC 4 0;refine aB 1 [] ?_;apply cJ 5 29 34 U;intro hg1;refine aB 9 [0] ?_;exact cC 5 0;intro hg1;refine aB 5 [] ?_;exact cC 5 0;refine bG 2 [] ?_;refine cF (fun hc1=>?_) fun hc1=>?_;refine bE 7 [] ?_;refine cG ?_;rotate_left;refine aK 9 [0] ?_;apply cJ 4 38 42 U;intro hg1;refine aB 7 [0] ?_;exact cC 4 0;intro hg1;refine aB 4 [] ?_;exact cC 4 0;refine bG 2 [] ?_;refine cF (fun hc2=>?_) fun hc2=>?_;refine aK 6 [0] ?_;apply bS 5 46 51 U;intro hg1;refine aB 9 [0] ?_;exact cC 5 0;intro hg1;refine aB 5 [] ?_;exact cC 5 0;refine aB 1 [] ?_;apply bS 4 52 56 U;intro hg1;refine aB 7 [0] ?_;exact cC 4 0;intro hg1;refine aB 4 [] ?_;exact cC 4 0;refine aY 5 [] ?_;refine cG ?_;rotate_left;refine bJ 10 [0] ?_;refine cF (fun hc3=>?_) fun hc3=>?_;refine bE 7 [] ?_;refine cG ?_;rotate_left;refine aK 9 [0] ?_;apply cJ 4 63 67 U;intro hg1;refine aB 7 [0] ?_;exact cC 4 0;intro hg1;refine aB 4 [] ?_;exact cC 4 0;refine bG 2 [] ?_;refine cF (fun hc4=>?_) fun hc4=>?_;refine aK 6 [0] ?_;apply bS 4 71 75 U;intro hg1;refine aB 7 [0] ?_;exact cC 4 0;intro hg1;refine aB 4 [] ?_;exact cC 4 0;refine aB 1 [] ?_;apply bS 4 76 80 U;intro hg1;refine aB 7 [0] ?_;exact cC 4 0;intro hg1;refine aB 4 [] ?_;exact cC 4 0;refine aY 5 [] ?_;refine cG ?_;rotate_left;refine aK 9 [0] ?_;apply cJ 4 84 88 U;intro hg1;refine aB 7 [0] ?_;exact cC 4 0;intro hg1;refine aB 4 [] ?_;exact cC 4 0;refine bG 2 [] ?_;refine cF (fun hc5=>?_) fun hc5=>?_;refine aK 6 [0] ?_;apply bS 4 92 96 U;intro hg1;refine aB 7 [0] ?_;exact cC 4 0;intro hg1;refine aB 4 [] ?_;exact cC 4 0;refine aY 5 [] ?_;refine cG ?_;rotate_left;refine bE 11 [0] ?_;refine cG ?_;rotate_left;all_goals refine ⟨?_,U,U⟩
 all_goals simp only [tS,Value.bool.injEq]
 all_goals first | rw [kD] | (symm;rw [fA])
 all_goals try simp only [*,gL,eQ,rP]
 all_goals first | omega | (rintro ⟨_,h,_⟩;first | exact h | exact hc3 h)
theorem CJ {p:PV} {k:Nat} (h:k≤p.outs.length) (h':(k:Int)<(p.outs.length:Int)) (hb:p.outs[((k:Nat):Int).toNat]?.getD default<0∨p.regs≤p.outs[((k:Nat):Int).toNat]?.getD default):vJ p=false:=by
 have hl:k<p.outs.length:=sU;have hx:p.outs[(k:Int).toNat]?.getD default∈p.outs:=by rw [aG,aA hl];simp
 have hf:(p.outs.all fun r=>decide (0≤r∧r<p.regs))=false:=by
  rw [rY];exact ⟨_,hx,by simp only [aO];omega⟩
 unfold vJ;rw [hf,Bool.and_false]
theorem rm (G:A2) (p:PV) (ac ao:J0 Addr) (cc co:Nat) (hc:Arr G ac p.code) (ho:Arr G ao p.outs) (h1:p.code.length≤1099511627776) (h2:p.outs.length≤1099511627776) :
 Does Tryz.prog 113 [.agg (J1 p ac cc ao co)] G [] (fun v G' Ho=>v=.tuple #[.int .i64 (uH p).1,.bool (decide ((uH p).2=true))]∧G'=G∧Ho=[]):=by
 refine D0 Tryz.func113 Tryz.ntmps113 fun w=>?_;refine aK 2 [] ?_;refine eG 0 fun b1=>?_;refine aS 11 [0] ?_;apply cJ 6 9 15 U;intro hg1;refine aB 11 [0,0] ?_;exact cC 6 0;intro hg1;refine aB 6 [] ?_;exact cC 6 0;refine aB 1 [] ?_;apply cJ 4 16 20 U;intro hg1;refine aB 7 [0] ?_;exact cC 4 0;intro hg1;refine aB 4 [] ?_;exact cC 4 0;refine aB 1 [] ?_;apply cJ 5 21 26 U;intro hg1;refine aB 9 [0] ?_;exact cC 5 0;intro hg1;refine aB 5 [] ?_;exact cC 5 0;refine aB 1 [] ?_;apply cJ 5 27 32 U;intro hg1;refine aB 9 [0] ?_;exact cC 5 0;intro hg1;refine aB 5 [] ?_;exact cC 5 0;refine aB 1 [] ?_;apply cJ 5 33 38 U;intro hg1;refine aB 9 [0] ?_;exact cC 5 0;intro hg1;refine aB 5 [] ?_;exact cC 5 0;refine bG 2 [] ?_;refine cF (fun hc1=>?_) fun hc1=>?_;refine bE 8 [] ?_;refine jJ ?_;rotate_left;refine bJ 9 [] ?_;rotate_left
 · refine ⟨?_,U,U⟩;have:vJ p=false:=by unfold vJ;rw [bN sU];rfl
   simp [uH,this]
 refine gZ (ι:=Nat) (fun k=>([(4,.int .i64 (k:Int)),(1,.pointer (some ⟨b1,0,none⟩))],[(0,some b1,.cells (J1 p ac cc ao co) 26)])) (fun k=>k≤p.outs.length∧(p.outs.take k).all (fun r=>decide (0≤r∧r<p.regs))=true) (fun k=>p.outs.length - k) (0) (⟨aP _,U⟩) fun k=>fun hk=>?_;obtain ⟨hk1,hk2⟩:=hk;refine bJ 10 [0] ?_;refine cF (fun hc2=>?_) fun hc2=>?_;refine bJ 5 [] ?_;refine dL [0] [] T.mixed [[0],[1,0],[2]] ?_;refine kE (α:=Int) 3 T.sl24 ?_;refine rG 4 [0] 0 T.one3 ?_;refine eO [[5],[6]] ?_;refine Gm.cases 52 U (fun hg1=>?_) fun hg1=>?_;refine eO [[7],[8],[9],[10],[11],[12],[13],[14],[15]] ?_;refine eU ?_;refine fI 14 [1] ?_;refine jJ ?_;rotate_left;refine eO [[7],[8,0],[9]] ?_;refine Gm.y 10 [] U (lY (α:=Int) T.sl24 U U sV sU) ?_;refine Gm.y 11 [0] U (eE T.one3 U (jO sV sU 0 U U)) ?_;refine eO [[12],[13,0],[14],[15]] ?_;refine eU ?_;refine cH ?_;refine cF (fun hc3=>?_) fun hc3=>?_;refine bE 12 [] ?_;refine jJ ?_;rotate_left;refine bE 8 [] ?_;rotate_left;refine bJ 12 [] ?_;rotate_left
 · refine ⟨?_,U,U⟩;simp [uH,CJ hk1 hc2 (.inl hg1)]
 · refine ⟨?_,U,U⟩;simp [uH,CJ hk1 hc2 (.inr hc3)]
 · refine cO (k+1) ?_ ?_
   · refine ⟨by omega,?_⟩;rw [Dv _ sU,hk2];simp only [nK,aO];omega
   omega
 have hk:k=p.outs.length:=sU;subst hk;rw [bI] at hk2;have hh:vJ p=true:=by
  unfold vJ;rw [hk2,lZ,aO];omega
 clear hk1 hk2 hc2;refine gZ (ι:=Nat) (fun k=>([(5,.int .i64 (k:Int)),(1,.pointer (some ⟨b1,0,none⟩))],[(0,some b1,.cells (J1 p ac cc ao co) 26)])) (fun k=>k≤p.code.length∧(p.code.take k).all (fun i=>tH i p.regs)=true) (fun k=>p.code.length - k) (0) (⟨aP _,U⟩) fun k=>fun hk=>?_;obtain ⟨hk1,hk2⟩:=hk;refine bJ 10 [0] ?_;refine cF (fun hc2=>?_) fun hc2=>?_;refine bJ 5 [] ?_;refine dL [0] [] T.mixed [[0],[1,0],[2]] ?_;refine kE (α:=Instr) 3 T.sl23 ?_;refine oP 4 T.agg91 ?_;refine eO [[5],[6,0]] ?_;refine dB 7 ?_;refine cZ U (ri _ _ _) ?_;refine bW ?_;refine fH 8 [] U (eJ U) ?_;refine eU ?_;refine cH ?_;refine cF (fun hc3=>?_) fun hc3=>?_;refine bE 13 [] ?_;refine jJ ?_;rotate_left;refine bE 8 [] ?_;rotate_left;refine bE 12 [] ?_;refine jJ ?_;rotate_left
 · refine ⟨?_,U,U⟩;have hl:k<p.code.length:=sU;have:Cb p=some k:=Ri hl hk2 hc3;simp [uH,hh,this]
 · refine cO (k+1) ?_ ?_
   · refine ⟨by omega,?_⟩;rw [Dv _ sU,hk2];simpa using hc3
   omega
 refine ⟨?_,U,U⟩;have hk:k=p.code.length:=sU;subst hk;rw [bI] at hk2;have:Cb p=none:=Me hk2;simp [uH,hh,this]
theorem po (G:A2) (p:PV) (ac ao:J0 Addr) (cc co:Nat) (hc:Arr G ac p.code) (ho:Arr G ao p.outs) (h1:p.code.length≤1099511627776) (h2:p.outs.length≤1099511627776) :
 Does Tryz.prog 57 [.agg (J1 p ac cc ao co)] G [] (fun v G' Ho=>v=.bool (decide (sW p=true))∧G'=G∧Ho=[]):=by
 refine D0 Tryz.func57 Tryz.ntmps57 fun w=>?_;refine aK 2 [] ?_;refine eG 0 fun b1=>?_;refine aS 6 [0] ?_;refine cZ U (rm _ _ _ _ _ _ sV sV sU sU) ?_;refine aS 10 [] ?_;refine aZ (eJ U) ?_;refine aY 4 [] ?_;refine cG ?_;refine ⟨?_,U,U⟩;cases h:(uH p).2 <;> simp [sW,h]
instance:DecidableEq PV:=fun a b=>by
 cases a;cases b;simp only [PV.mk.injEq];infer_instance
theorem Ka {α:Type} [Inhabited α] {l m:List α} {k:Nat} (hl:k<l.length) (hm:k<m.length) (h:l.take k=m.take k)
 (he:l[((k:Nat):Int).toNat]?.getD default=m[((k:Nat):Int).toNat]?.getD default):l.take (k+1)=m.take (k+1):=by
 rw [aG,aA hl,aA hm] at he;rw [dA,dA,h,aA hl,aA hm];simp only [dI] at he;rw [he]
structure Tab where
 held:List Int
 known:List (K4×Int)
 first:List (K4×Int)
 next:Int
def start (p:PV):List Int:=(List.range p.regs.toNat).map fun r=>if (p.ins:Int)<((r:Nat):Int) then p.ins else ((r:Nat):Int)
def holder (l:List Int) (v:Int):Int:=match l.findIdx? (fun x=>decide (x=v)) with | some k=>(k:Int) | none=>-1
def keyOf (held:List Int) (i:I5):K4:=
 let a:=held[i.a.toNat]?.getD default
 if i.op=3∨i.op=4 then
  let b:=held[i.b.toNat]?.getD default
  if i.op=3∧b<a then ⟨i.op,b,a,i.c⟩ else ⟨i.op,a,b,i.c⟩
 else ⟨i.op,a,-1,i.c⟩
theorem CK (i:I5):(1<((tM i).length:Int))↔(i.op=3∨i.op=4):=by
 unfold tM;by_cases h:i.op=3∨i.op=4
 · simp [h]
 rw [aC h];split <;> simp [h]
def reckonP (t:Tab) (n:Int) (i:I5):(Int×Int)×Tab:=
 if i.op=1 then ((t.held[i.a.toNat]?.getD default,-1),t)
 else match A9 t.known (keyOf t.held i) with
  | none=>((t.next,n),{ t with known:=t.known++[(keyOf t.held i,t.next)],first:=t.first++[(keyOf t.held i,n)],next:=t.next+1 })
  | some v=>((v,(A9 t.first (keyOf t.held i)).getD 0),t)
theorem Wk {xs:List (K4×Int)} {k:K4} {v:Int} (h:A9 xs k=none):A9 (xs++[(k,v)]) k=some v:=by
 rw [←zA xs k v h,xW,aE rfl]
def askedP (held:List Int) (i:I5):Sl.Instr:=
 { i with a:=holder held (held[i.a.toNat]?.getD default),b:=if i.op=3∨i.op=4 then holder held (held[i.b.toNat]?.getD default) else i.b }
def tP (s:Tab×List I5) (n:Int) (i:I5):Tab×List Sl.Instr:=
 let v:=(reckonP s.1 n i).1.1
 let t:=(reckonP s.1 n i).2
 let j:=askedP t.held i
 if t.held[i.to.toNat]?.getD default=v then (t,s.2)
 else ({ t with held:=t.held.set i.to.toNat v },s.2++[if 0≤holder t.held v then ⟨1,j.to,holder t.held v,0,0⟩ else j])
def uC (p:PV):Nat→Tab×List I5
 | 0=>(⟨start p,[],[],p.ins+1⟩,[])
 | k+1=>tP (uC p k) k (p.code[((k:Nat):Int).toNat]?.getD default)
def wL (p:PV) (held:List Int):List Int:=p.outs.map fun r=>holder held (held[r.toNat]?.getD default)
def yJ (p:PV):PV:=⟨p.ins,p.regs,(uC p p.code.length).2,wL p (uC p p.code.length).1.held⟩
theorem sZ {p:PV} (h:sW p=true):1≤p.ins∧p.ins≤p.regs∧p.regs≤128∧p.code.length≤16384∧1≤p.outs.length∧p.outs.length≤128∧(∀ r∈p.outs,0≤r∧r<p.regs)∧(∀ i∈p.code,tH i p.regs=true):=by
 unfold sW uH at h;by_cases hh:vJ p=false
 · rw [aE hh] at h;cases h
 rw [aC hh] at h;have hb:Cb p=none:=by
  cases hb:Cb p with
  | none=>rfl
  | some k=>rw [hb] at h;cases h
 have hh':vJ p=true:=by simpa using hh
 unfold vJ at hh';rw [aF,aO,dQ] at hh';unfold Cb at hb;rw [gB] at hb;obtain ⟨⟨g1,g2,g3,g4,g5,g6⟩,g7⟩:=hh';refine ⟨g1,g2,g3,g4,g5,g6,fun r hr=>?_,fun i hi=>?_⟩
 · have:=g7 r hr;rw [aO] at this;exact this
 simpa using hb i hi
theorem Dc (t:Tab) (n:Int) (i:I5):(reckonP t n i).2.held=t.held:=by
 unfold reckonP;split
 · rfl
 split <;> rfl
theorem Mf {t:Tab} {n:Int} {i:I5} (h:∀ x,A9 t.known x=none→A9 t.first x=none):∀ x,A9 (reckonP t n i).2.known x=none→A9 (reckonP t n i).2.first x=none:=by
 unfold reckonP;split
 · exact h
 split
 · rename_i hk;intro x hx;rw [←zA _ _ _ hk,xW] at hx;rw [←zA _ _ _ (h _ hk),xW];split at hx
   · cases hx
   rename_i hne;rw [aC hne];exact h _ hx
 exact h
theorem zC {t:Tab} (h:0≤t.next) (n:Int) (i:I5):0≤(reckonP t n i).2.next∧(reckonP t n i).2.next≤t.next+1:=by
 unfold reckonP;split
 · exact ⟨h,by show t.next≤_;omega⟩
 split
 · exact ⟨by show 0≤t.next+1;omega,lH _⟩
 exact ⟨h,by show t.next≤_;omega⟩
section
variable {t:Tab} {out:List I5} {n:Int} {i:I5}
theorem Hu (h:(reckonP t n i).2.held[(askedP (reckonP t n i).2.held i).to.toNat]?.getD default=(reckonP t n i).1.1):tP (t,out) n i=((reckonP t n i).2,out):=aE h
theorem Hw (h:¬(reckonP t n i).2.held[(askedP (reckonP t n i).2.held i).to.toNat]?.getD default=(reckonP t n i).1.1) (h2:0≤holder (reckonP t n i).2.held (reckonP t n i).1.1) :
 tP (t,out) n i=({ (reckonP t n i).2 with held:=(reckonP t n i).2.held.set (askedP (reckonP t n i).2.held i).to.toNat (reckonP t n i).1.1 },out++[⟨1,(askedP (reckonP t n i).2.held i).to,holder (reckonP t n i).2.held (reckonP t n i).1.1,0,0⟩]):=
 (aC h).trans (by rw [aE h2];rfl)
theorem Hx (h:¬(reckonP t n i).2.held[(askedP (reckonP t n i).2.held i).to.toNat]?.getD default=(reckonP t n i).1.1) (h2:¬0≤holder (reckonP t n i).2.held (reckonP t n i).1.1) :
 tP (t,out) n i=({ (reckonP t n i).2 with held:=(reckonP t n i).2.held.set (askedP (reckonP t n i).2.held i).to.toNat (reckonP t n i).1.1 },out++[askedP (reckonP t n i).2.held i]):=
 (aC h).trans (by rw [aC h2];rfl)
end
theorem Dd {l:List Int} {v:Int} (h:0≤holder l v):holder l v<l.length∧l[(holder l v).toNat]?.getD default=v:=by
 unfold holder at h ⊢;cases hk:l.findIdx? (fun x=>decide (x=v)) with
 | none=>rw [hk] at h;simp at h
 | some k =>
   rw [jT] at hk;obtain ⟨h1,h2,_⟩:=hk;simp only [aO] at h2;refine ⟨by show (k:Int)<_;omega,?_⟩;show l[(k:Int).toNat]?.getD default=v;rw [aG,aA h1];exact h2
theorem CL {l:List Int} {v:Int} (h:¬0≤holder l v):holder l v=-1:=by
 unfold holder at h ⊢;cases hk:l.findIdx? (fun x=>decide (x=v)) with
 | none=>rfl
 | some k=>rw [hk] at h;exact absurd (mH k) h
theorem HF {l:List Int} {v:Int} (h:v∈l):0≤holder l v:=by
 unfold holder;cases hk:l.findIdx? (fun x=>decide (x=v)) with
 | none=>rw [gB] at hk;have:=hk v h;simp at this
 | some k=>exact mH k
theorem NA {l:List Int} {v n:Int} (hl:∀ x∈l,x<n) (h:n≤v):holder l v=-1:=by
 refine CL fun hh=>?_;obtain ⟨h1,h2⟩:=Dd hh;have hm:v∈l:=by
  have hlt:(holder l v).toNat<l.length:=sU;rw [aA hlt,dI] at h2;rw [←h2];exact bY hlt
 have:=hl v hm;omega
theorem get_mem {l:List Int} {r:Int} (h:0≤r∧r<l.length):l[r.toNat]?.getD default∈l:=by
 have hlt:r.toNat<l.length:=sU;rw [aA hlt];exact bY hlt
theorem Ac {l:List Int} {r:Int} (h:0≤r∧r<l.length):0≤holder l (l[r.toNat]?.getD default)∧holder l (l[r.toNat]?.getD default)<l.length∧
 l[(holder l (l[r.toNat]?.getD default)).toNat]?.getD default=l[r.toNat]?.getD default:=by
 have h0:=HF (get_mem h);exact ⟨h0,Dd h0⟩
structure D4 (t:Tab) (regs:Int):Prop where
 len:(t.held.length:Int)=regs
 held:∀ x∈t.held,x<t.next
 known:∀ k v,A9 t.known k=some v→v<t.next
theorem NB {l:List Int} {i:I5} (h:tH i l.length=true):keyOf l (askedP l i)=keyOf l i∧askedP l (askedP l i)=askedP l i∧tH (askedP l i) l.length=true:=by
 have h':=h;rw [tS] at h;obtain ⟨⟨h1,h2,h3,h4,h5,h6⟩,hb⟩:=h;obtain ⟨a1,a2,a3⟩:=Ac (l:=l) (r:=i.a) ⟨h5,h6⟩;by_cases ht:i.op=3∨i.op=4
 · rw [aE ht] at hb;obtain ⟨b1,b2,b3⟩:=Ac (l:=l) (r:=i.b) ⟨hb.1,hb.2.1⟩;have e:askedP l i=⟨i.op,i.to,holder l (l[i.a.toNat]?.getD default),holder l (l[i.b.toNat]?.getD default),i.c⟩:=by unfold askedP;rw [aE ht]
   refine ⟨?_,?_,?_⟩
   · rw [e];unfold keyOf;simp only [a3,b3]
   · rw [e];unfold askedP;simp only [a3,b3,aE ht]
   rw [e,tS,aE ht];exact ⟨⟨h1,h2,h3,h4,a1,a2⟩,b1,b2,hb.2.2⟩
 rw [aC ht] at hb;have e:askedP l i=⟨i.op,i.to,holder l (l[i.a.toNat]?.getD default),i.b,i.c⟩:=by unfold askedP;rw [aC ht]
 refine ⟨?_,?_,?_⟩
 · rw [e];unfold keyOf;simp only [a3,aC ht]
 · rw [e];unfold askedP;simp only [a3,aC ht]
 rw [e,tS,aC ht];exact ⟨⟨h1,h2,h3,h4,a1,a2⟩,hb⟩
theorem Kb {t:Tab} {regs:Int} (h:D4 t regs) (n:Int) (i:I5) (ha:0≤i.a∧i.a<regs):D4 (reckonP t n i).2 regs∧(reckonP t n i).1.1<(reckonP t n i).2.next:=by
 unfold reckonP;split
 · exact ⟨h,h.held _ (get_mem (by rw [h.len];exact ha))⟩
 split
 · rename_i hk;refine ⟨⟨h.len,fun x hx=>?_,fun k v hv=>?_⟩,?_⟩
   · have:=h.held x hx;show x<t.next+1;omega
   · show v<t.next+1;have hv':A9 (t.known++[(keyOf t.held i,t.next)]) k=some v:=hv;rw [←zA _ _ _ hk,xW] at hv';split at hv'
     · cases hv';omega
     have:=h.known k v hv';omega
   show t.next<t.next+1;omega
 rename_i v hk;exact ⟨h,h.known _ _ hk⟩
theorem JO {l:List Int} {k:Nat} {v regs:Int} (h:(l.length:Int)=regs):((l.set k v).length:Int)=regs:=by rw [aI];exact h
theorem Oc {p:PV} (h:1≤p.ins∧p.ins≤p.regs):D4 ⟨start p,[],[],p.ins+1⟩ p.regs:=by
 refine ⟨?_,fun x hx=>?_,fun k v hv=>by simp [A9] at hv⟩
 · show ((start p).length:Int)=_;simp [start];omega
 simp only [start,cT,jD] at hx;obtain ⟨r,_,rfl⟩:=hx;show _<p.ins+1;split <;> omega
def p2 (n:Nat):Int:=((2 ^ n:Nat):Int)
theorem Kc:p2 0=1:=rfl
theorem Ep (n:Nat):p2 (n+1)=2*p2 n:=by unfold p2;rw [Nat.pow_succ,rX,kN];rfl
theorem xN (n:Nat):0<p2 n:=by unfold p2;exact Int.ofNat_lt.2 (Nat.pow_pos tI)
theorem Er (m n:Nat):p2 (m+n)=p2 m*p2 n:=by unfold p2;rw [Nat.pow_add,kN]
theorem JP {m n:Nat} (h:m≤n):p2 m≤p2 n:=by unfold p2;exact pZ.2 (lF tI h)
theorem NC {a b:Nat} (h:p2 a<p2 b):a<b:=by
 rcases aN a b with h1 | h1
 · exact h1
 have:=JP h1;omega
def cst (i:I5):Int:=if i.op=5∨i.op=6 then i.c else p2 i.c.toNat
theorem CM {i:I5} (h:i.op=5∨i.op=6):cst i=i.c:=aE h
theorem am {i:I5} (h:¬(i.op=5∨i.op=6)):cst i=p2 i.c.toNat:=aC h
theorem CN (n:Nat):pw n=p2 (16*n):=by unfold pw p2;rw [Nat.pow_mul]
theorem CO:p2 16=65536:=by unfold p2;decide
def yG (y:Int) (xs:List Int):Prop:=∀ i:Nat,i<xs.length→xs[i]?.getD 0 % y=0
instance (y:Int) (xs:List Int):Decidable (yG y xs):=by unfold yG;infer_instance
def zP (i:I5) (rs:List (List Int)):J0 (List Int):=
 let a:=rs[i.a.toNat]?.getD []
 if i.op=2 then some (a.map (fun x=>-1*x))
 else if i.op=3 then some (List.zipWith (fun x y=>x+1*y) a (rs[i.b.toNat]?.getD []))
 else if i.op=4 then some (List.zipWith (fun x y=>x+(-1)*y) a (rs[i.b.toNat]?.getD []))
 else if i.op=5∨i.op=7 then some (a.map (fun x=>cst i*x))
 else if i.op=6∨i.op=8 then (if yG (cst i) a then some (a.map (· / cst i)) else none)
 else some a
def vR (p:PV) (gs:List (List Int)):List (List Int):=(List.range p.regs.toNat).map fun k=>if k<gs.length then gs[k]?.getD [] else List.replicate (gs[0]?.getD []).length 0
def wQ (p:PV) (gs:List (List Int)):Nat→J0 (List (List Int))
 | 0=>some (vR p gs)
 | k+1=>(wQ p gs k).bind fun rs=>(zP (p.code[((k:Nat):Int).toNat]?.getD default) rs).map fun x=>rs.set (p.code[((k:Nat):Int).toNat]?.getD default).to.toNat x
def wV (p:PV) (rs:List (List Int)):List (List Int):=p.outs.map fun r=>rs[r.toNat]?.getD []
def tJ (p:PV) (gs:List (List Int)):J0 (List (List Int)):=(wQ p gs p.code.length).map (wV p)
theorem Es {p:PV} {gs:List (List Int)} {k:Nat} {rs x:List (List Int)} {y:List Int} (h:wQ p gs k=some rs) (hd:zP (p.code[((k:Nat):Int).toNat]?.getD default) rs=some y) :
 wQ p gs (k+1)=some (rs.set (p.code[((k:Nat):Int).toNat]?.getD default).to.toNat y):=by
 unfold wQ;rw [h];simp only [dX,hd,fV]
theorem In {p:PV} {gs:List (List Int)} {k:Nat} (h:wQ p gs k=none) (j:Nat):wQ p gs (k+j)=none:=by
 induction j with
 | zero=>exact h
 | succ j ih=>rw [←kR];unfold wQ;rw [ih];rfl
theorem HG {p:PV} {gs:List (List Int)} {k:Nat} {rs:List (List Int)} (h:wQ p gs k=some rs) (hd:zP (p.code[((k:Nat):Int).toNat]?.getD default) rs=none) (hk:k<p.code.length):tJ p gs=none:=by
 have h1:wQ p gs (k+1)=none:=by unfold wQ;rw [h];simp only [dX,hd,kL]
 have h2:=In h1 (p.code.length - (k+1));rw [show k+1+(p.code.length - (k+1))=p.code.length by omega] at h2;unfold tJ;rw [h2];rfl
theorem RO:∀ c:Nat,c≤64→((p2 c).natAbs:Int)<pw 5:=fun c hc=>by
 have h1:=JP hc;have h2:=xN c;have h3:p2 64<pw 5:=by unfold p2 pw;decide
 omega
theorem tZ {i:I5} {regs:Int} (h:tH i regs=true):(1≤i.op∧i.op≤8)∧(0≤i.to∧i.to<regs)∧(0≤i.a∧i.a<regs)∧(i.op=3∨i.op=4→0≤i.b∧i.b<regs)∧tL i.op i.c=true∧
 (i.op≠1→i.op≠2→i.op≠3→i.op≠4→cst i≠0∧((cst i).natAbs:Int)<pw 5)∧(i.op=5∨i.op=6→-9223372036854775808≤i.c∧i.c≤9223372036854775807)∧(¬(i.op=5∨i.op=6)→0≤i.c∧i.c≤64):=by
 unfold tH at h;rw [aF,aF,aO,dQ] at h;obtain ⟨⟨⟨g1,g2,g3,g4,g5⟩,g6⟩,g7⟩:=h;have hA:∀ r∈tM i,0≤r∧r<regs:=fun r hr=>by have:=g7 r hr;rwa [aO] at this
 have ha:i.a∈tM i:=by
  unfold tM;split
  · exact aQ
  rw [aE ⟨g1,g2⟩];exact aQ
 have hc:=g6;unfold tL at g6;have k1:i.op=5∨i.op=6→i.c≠0∧-512≤i.c∧i.c≤512:=fun h=>by rw [aE h,aO] at g6;exact g6
 have k2:¬(i.op=5∨i.op=6)→(i.op=7∨i.op=8→1≤i.c∧i.c≤64)∧(¬(i.op=7∨i.op=8)→i.c=0):=fun h=>by
  rw [aC h] at g6;refine ⟨fun h2=>?_,fun h2=>?_⟩
  · rw [aE h2,aO] at g6;exact g6
  rw [aC h2,aO] at g6;exact g6
 refine ⟨⟨g1,g2⟩,⟨g3,g4⟩,hA _ ha,fun h34=>hA _ ai,hc,fun n1 n2 n3 n4=>?_,fun h56=>by have:=k1 h56;omega,fun h56=>?_⟩
 · by_cases h56:i.op=5∨i.op=6
   · rw [CM h56];have:=k1 h56;have h3:(65536:Int)<pw 5:=by unfold pw;decide
     exact ⟨this.1,by omega⟩
   rw [am h56];have h2:=(k2 h56).1 sU;have:=xN i.c.toNat;exact ⟨by omega,RO _ sU⟩
 by_cases h78:i.op=7∨i.op=8
 · have:=(k2 h56).1 h78;omega
 have:=(k2 h56).2 h78;omega
theorem vW (p:PV) (gs:List (List Int)):(vR p gs).length=p.regs.toNat:=by unfold vR;rw [aT,cM]
theorem Fw {p:PV} {gs:List (List Int)} {k:Nat} (hk:k<p.regs.toNat):(vR p gs)[k]?.getD []=if k<gs.length then gs[k]?.getD [] else List.replicate (gs[0]?.getD []).length 0:=by
 unfold vR;rw [bQ,eF hk];rfl
def XK (op c:Int) (a b:List Int):J0 (List Int):=zP ⟨op,0,0,1,c⟩ [a,b]
theorem Kd (i:I5) (rs:List (List Int)):zP i rs=XK i.op i.c (rs[i.a.toNat]?.getD []) (rs[i.b.toNat]?.getD []):=rfl
theorem RQ (a b:List Int):List.zipWith (fun x y=>x+1*y) a b=List.zipWith (fun x y=>x+1*y) b a:=by
 rw [List.zipWith_comm];congr 1;funext x y;omega
theorem RR (c:Int) (a b:List Int):XK 3 c a b=XK 3 c b a:=by
 show some (List.zipWith (fun x y=>x+1*y) a b)=some (List.zipWith (fun x y=>x+1*y) b a);rw [RQ]
theorem Zi {op:Int} (h:¬(op=3∨op=4)) (c:Int) (a b b':List Int):XK op c a b=XK op c a b':=by
 have h3:¬op=3:=fun e=>h (.inl e);have h4:¬op=4:=fun e=>h (.inr e);unfold XK zP;simp only [h3,h4,eQ];rfl
def Wm (E:Int→List Int) (k:K4):J0 (List Int):=XK k.op k.c (E k.a) (E k.b)
theorem Wn {E:Int→List Int} {held:List Int} {rs:List (List Int)} {regs:Int} {i:I5} (hm:tH i regs=true) (hv:∀ r:Int,0≤r∧r<regs→rs[r.toNat]?.getD []=E (held[r.toNat]?.getD default)) :
 Wm E (keyOf held i)=zP i rs:=by
 obtain ⟨m1,m2,m3,m4,m5,m6,m7,m8⟩:=tZ hm;rw [Kd,hv _ m3];unfold keyOf;by_cases h34:i.op=3∨i.op=4
 · rw [hv _ (m4 h34)];simp only [aE h34];split
   · rename_i hsw;unfold Wm;simp only;rw [hsw.1];exact RR _ _ _
   rfl
 simp only [aC h34];exact Zi h34 _ _ _ _
def zQ:List I5→List (List Int)→J0 (List (List Int))
 | [],rs=>some rs
 | i :: l,rs=>(zP i rs).bind fun x=>zQ l (rs.set i.to.toNat x)
theorem CQ (l m:List I5) (rs:List (List Int)):zQ (l++m) rs=(zQ l rs).bind (zQ m):=by
 induction l generalizing rs with
 | nil=>rfl
 | cons i l ih =>
   show (zP i rs).bind (fun x=>zQ (l++m) (rs.set i.to.toNat x))=_;show _=((zP i rs).bind fun x=>zQ l (rs.set i.to.toNat x)).bind (zQ m);cases zP i rs with
   | none=>rfl
   | some x=>exact ih _
theorem Dw {l:List I5} {i:I5} {rs:List (List Int)}:zQ (l++[i]) rs=(zQ l rs).bind fun r=>(zP i r).map fun x=>r.set i.to.toNat x:=by
 rw [CQ];congr 1;funext r;show (zP i r).bind (fun x=>zQ [] (r.set i.to.toNat x))=_;cases zP i r <;> rfl
theorem Ad (p:PV) (gs:List (List Int)):∀ k,k≤p.code.length→wQ p gs k=zQ (p.code.take k) (vR p gs)
 | 0,_=>by rw [dP];rfl
 | k+1,h=>by
   have hk:k<p.code.length:=sU;have e:p.code.take (k+1)=p.code.take k++[p.code[(k:Int).toNat]?.getD default]:=by
    rw [gH hk,aG,aA hk];rfl
   rw [e,Dw,←Ad p gs k sU];rfl
structure Val (t:Tab) (rs:List (List Int)) (E:Int→List Int) (regs:Int):Prop where
 len:(rs.length:Int)=regs
 reg:∀ r:Int,0≤r∧r<regs→rs[r.toNat]?.getD []=E (t.held[r.toNat]?.getD default)
 key:∀ k v,A9 t.known k=some v→Wm E k=some (E v)
 old:∀ k v,A9 t.known k=some v→k.a<t.next∧k.b<t.next
 pos:0≤t.next
theorem JQ {t:Tab} {regs:Int} {i:I5} (hs:D4 t regs) (hp:0≤t.next) (hm:tH i regs=true):(keyOf t.held i).a<t.next∧(keyOf t.held i).b<t.next:=by
 obtain ⟨m1,m2,m3,m4,m5,m6,m7,m8⟩:=tZ hm;have hl:=hs.len;have ha:=hs.held _ (get_mem (l:=t.held) (r:=i.a) sU);unfold keyOf;by_cases h34:i.op=3∨i.op=4
 · have hb:=hs.held _ (get_mem (l:=t.held) (r:=i.b) (by have:=m4 h34;omega));simp only [aE h34];split
   · exact ⟨hb,ha⟩
   exact ⟨ha,hb⟩
 simp only [aC h34];exact ⟨ha,by show (-1:Int)<_;omega⟩
theorem Wo {t:Tab} {rs:List (List Int)} {E:Int→List Int} {regs:Int} {i:I5} (hs:D4 t regs) (hv:Val t rs E regs) (hm:tH i regs=true):zP (askedP t.held i) rs=zP i rs:=by
 obtain ⟨m1,m2,m3,m4,m5,m6,m7,m8⟩:=tZ hm;have hl:=hs.len;obtain ⟨a1,a2,a3⟩:=Ac (l:=t.held) (r:=i.a) sU;have ea:rs[(holder t.held (t.held[i.a.toNat]?.getD default)).toNat]?.getD []=rs[i.a.toNat]?.getD []:=by
  rw [hv.reg _ ⟨a1,by omega⟩,hv.reg _ m3,a3]
 rw [Kd,Kd i];unfold askedP;simp only;rw [ea];by_cases h34:i.op=3∨i.op=4
 · obtain ⟨b1,b2,b3⟩:=Ac (l:=t.held) (r:=i.b) (by have:=m4 h34;omega);have eb:rs[(holder t.held (t.held[i.b.toNat]?.getD default)).toNat]?.getD []=rs[i.b.toNat]?.getD []:=by
    rw [hv.reg _ ⟨b1,by omega⟩,hv.reg _ (m4 h34),b3]
   rw [aE h34,eb]
 exact Zi h34 _ _ _ _
theorem HH {t:Tab} {rs:List (List Int)} {E:Int→List Int} {regs n:Int} {i:I5} {x:List Int} (hs:D4 t regs) (hv:Val t rs E regs) (hm:tH i regs=true) (hd:zP i rs=some x) :
 ∃ E1,Val (reckonP t n i).2 rs E1 regs∧E1 (reckonP t n i).1.1=x:=by
 obtain ⟨m1,m2,m3,m4,m5,m6,m7,m8⟩:=tZ hm;have hl:=hs.len;have hk:=Wn hm hv.reg;unfold reckonP;by_cases h1:i.op=1
 · rw [aE h1];refine ⟨E,hv,?_⟩;have:zP i rs=some (rs[i.a.toNat]?.getD []):=by unfold zP;simp [h1]
   rw [this] at hd;cases hd;exact (hv.reg _ m3).symm
 rw [aC h1];cases hg:A9 t.known (keyOf t.held i) with
 | some v =>
   refine ⟨E,hv,?_⟩;have e:=hv.key _ _ hg;rw [hk,hd] at e;exact (jU e).symm
 | none =>
   have hold:∀ y:Int,y<t.next→(fun z=>if z=t.next then x else E z) y=E y:=fun y hy=>aC (by omega);have hev:∀ k:K4,k.a<t.next∧k.b<t.next→Wm (fun z=>if z=t.next then x else E z) k=Wm E k:=fun k hk=>by
    unfold Wm;rw [hold _ hk.1,hold _ hk.2]
   have hgm:∀ k,A9 (t.known++[(keyOf t.held i,t.next)]) k=if keyOf t.held i=k then some t.next else A9 t.known k:=fun k=>by
    rw [←zA _ _ _ hg,xW];by_cases he:k=keyOf t.held i <;> simp [he,eq_comm]
   refine ⟨fun z=>if z=t.next then x else E z,⟨hv.len,fun r hr=>?_,fun k v hkv=>?_,fun k v hkv=>?_,by have:=hv.pos;show (0:Int)≤t.next+1;omega⟩,aE U⟩
   · have:=hs.held _ (get_mem (l:=t.held) (r:=r) sU);exact (hv.reg r hr).trans (hold _ this).symm
   · have hkv:A9 (t.known++[(keyOf t.held i,t.next)]) k=some v:=hkv;rw [hgm] at hkv;split at hkv
     · rename_i he;cases hkv;subst he;rw [hev _ (JQ hs hv.pos hm),hk,hd];exact congrArg some (aE U).symm
     have hlt:=hs.known _ _ hkv;rw [hev _ (hv.old _ _ hkv),hv.key _ _ hkv];exact congrArg some (hold _ hlt).symm
   have hkv:A9 (t.known++[(keyOf t.held i,t.next)]) k=some v:=hkv;rw [hgm] at hkv;show k.a<t.next+1∧k.b<t.next+1;split at hkv
   · rename_i he;subst he;have:=JQ hs hv.pos hm;omega
   have:=hv.old _ _ hkv;omega
theorem Ke {l:List (List Int)} {k:Nat} {x:List Int} {r:Int} (hr:0≤r∧r<l.length):(l.set k x)[r.toNat]?.getD []=if (k:Int)=r then x else l[r.toNat]?.getD []:=by
 have h1:r.toNat<l.length:=sU;rw [cE];by_cases h:(k:Int)=r
 · rw [aE (by omega),aE (by omega),aE h];rfl
 rw [aC (by omega),aC h]
theorem zR {l:List Int} {k:Nat} {x:Int} {r:Int} (hr:0≤r∧r<l.length):(l.set k x)[r.toNat]?.getD default=if (k:Int)=r then x else l[r.toNat]?.getD default:=by
 have h1:r.toNat<l.length:=sU;rw [cE];by_cases h:(k:Int)=r
 · rw [aE (by omega),aE (by omega),aE h];rfl
 rw [aC (by omega),aC h]
theorem Zj {l:List (List Int)} {k:Nat} (hk:k<l.length) {x:List Int} (h:l[k]?.getD []=x):l.set k x=l:=by
 rw [aA hk] at h;have h:l[k]=x:=h;rw [←h,List.set_getElem_self]
theorem RU {t:Tab} {rs r0:List (List Int)} {E:Int→List Int} {regs n:Int} {i:I5} {x:List Int} {out:List I5} (hs:D4 t regs) (hv:Val t rs E regs) (hm:tH i regs=true) (hr:zQ out r0=some rs) (hd:zP i rs=some x) :
 zQ (tP (t,out) n i).2 r0=some (rs.set i.to.toNat x)∧∃ E1,Val (tP (t,out) n i).1 (rs.set i.to.toNat x) E1 regs:=by
 obtain ⟨m1,m2,m3,m4,m5,m6,m7,m8⟩:=tZ hm;obtain ⟨E1,hv1,hx⟩:=HH (n:=n) hs hv hm hd;have hh:=Dc t n i;have hl:=hs.len;have hrl:=hv.len;have hask:=Wo hs hv hm;unfold tP;simp only;split
 · rename_i hc;have e:rs.set i.to.toNat x=rs:=Zj sU (by rw [hv1.reg _ m2,hc,hx]);rw [e];exact ⟨hr,E1,hv1⟩
 rename_i hc;refine ⟨?_,E1,⟨by rw [aI];exact hrl,fun r hr9=>?_,hv1.key,hv1.old,hv1.pos⟩⟩
 · rw [Dw,hr];show ((zP _ rs).map fun x=>rs.set _ x)=_;split
   · rename_i h0;obtain ⟨g1,g2⟩:=Dd h0;have e:zP ⟨1,(askedP (reckonP t n i).2.held i).to,holder (reckonP t n i).2.held (reckonP t n i).1.1,0,0⟩ rs=some x:=by
      show some (rs[(holder (reckonP t n i).2.held (reckonP t n i).1.1).toNat]?.getD [])=some x;rw [hv1.reg _ ⟨h0,by rw [hh] at g1 ⊢;omega⟩,g2,hx]
     rw [e];rfl
   rw [hh,hask,hd];rfl
 rw [Ke sU];show _=E1 (((reckonP t n i).2.held.set i.to.toNat (reckonP t n i).1.1)[r.toNat]?.getD default);rw [zR (by rw [hh];omega)];split
 · exact hx.symm
 exact hv1.reg r hr9
theorem ND {t:Tab} {rs r0:List (List Int)} {E:Int→List Int} {regs n:Int} {i:I5} {out:List I5} (hs:D4 t regs) (hv:Val t rs E regs) (hm:tH i regs=true) (hr:zQ out r0=some rs) (hd:zP i rs=none) :
 zQ (tP (t,out) n i).2 r0=none:=by
 obtain ⟨m1,m2,m3,m4,m5,m6,m7,m8⟩:=tZ hm;have hh:=Dc t n i;have hl:=hs.len;have hask:=Wo hs hv hm;have hk:=Wn hm hv.reg;have h1:¬i.op=1:=fun h=>by
  have:zP i rs=some (rs[i.a.toNat]?.getD []):=by unfold zP;simp [h]
  rw [this] at hd;cases hd
 have hg:A9 t.known (keyOf t.held i)=none:=by
  cases hg:A9 t.known (keyOf t.held i) with
  | none=>rfl
  | some v=>have:=hv.key _ _ hg;rw [hk,hd] at this;cases this
 have hn:(reckonP t n i).1.1=t.next:=by unfold reckonP;rw [aC h1,hg]
 have hto:=hs.held _ (get_mem (l:=t.held) (r:=i.to) sU);have hho:=NA (l:=t.held) (v:=t.next) (n:=t.next) hs.held (lH _);unfold tP;simp only;rw [hn,hh,aC (by omega),hho,aC (by decide),Dw,hr];show ((zP _ rs).map fun x=>rs.set _ x)=_;rw [hask,hd];rfl
theorem HI {t:Tab} {regs n:Int} {i:I5} {out:List I5} (hs:D4 t regs) (hm:tH i regs=true):D4 (tP (t,out) n i).1 regs:=by
 obtain ⟨m1,m2,m3,m4,m5,m6,m7,m8⟩:=tZ hm;obtain ⟨s1,s2⟩:=Kb hs n i m3;unfold tP;simp only;split
 · exact s1
 refine ⟨JO s1.len,fun x hx=>?_,s1.known⟩;rcases eM hx with h | h
 · exact s1.held x h
 rw [h];exact s2
theorem NE {t:Tab} {n:Int} {i:I5} {out:List I5} {r0:List (List Int)} (h:zQ out r0=none):zQ (tP (t,out) n i).2 r0=none:=by
 unfold tP;simp only;split
 · exact h
 rw [Dw,h];rfl
theorem NF {p:PV} {gs:List (List Int)} (h:1≤p.ins∧p.ins≤p.regs) (hg:(gs.length:Int)=p.ins) :
 Val ⟨start p,[],[],p.ins+1⟩ (vR p gs) (fun v=>if v<p.ins then gs[v.toNat]?.getD [] else List.replicate (gs[0]?.getD []).length 0) p.regs:=by
 refine ⟨by rw [vW];omega,fun r hr=>?_,fun k v hk=>(nomatch (show (none:J0 Int)=some v from hk)),fun k v hk=>(nomatch (show (none:J0 Int)=some v from hk)),by show (0:Int)≤p.ins+1;omega⟩;have e:(start p)[r.toNat]?.getD default=if p.ins<r then p.ins else r:=by
  unfold start;rw [bQ,eF sU];show (if p.ins<((r.toNat:Nat):Int) then p.ins else ((r.toNat:Nat):Int))=_;rw [cN hr.1]
 show _=(fun v:Int=>if v<p.ins then gs[v.toNat]?.getD [] else List.replicate (gs[0]?.getD []).length 0) ((start p)[r.toNat]?.getD default);rw [Fw sU,e];by_cases h1:r<p.ins
 · rw [aE (by omega)];show _=if (if p.ins<r then p.ins else r)<p.ins then _ else _;rw [aC (show ¬p.ins<r by omega),aE h1]
 rw [aC (by omega)];show _=if (if p.ins<r then p.ins else r)<p.ins then _ else _;rw [aC (by split <;> omega)]
theorem CR {p:PV} {gs:List (List Int)} (hR:sW p=true) (hg:(gs.length:Int)=p.ins):∀ k,k≤p.code.length→
 D4 (uC p k).1 p.regs∧((∃ rs E,wQ p gs k=some rs∧zQ (uC p k).2 (vR p gs)=some rs∧Val (uC p k).1 rs E p.regs)∨(wQ p gs k=none∧zQ (uC p k).2 (vR p gs)=none))
 | 0,_=>by
   obtain ⟨f1,f2,f3,f4,f5,f6,f7,f8⟩:=sZ hR;exact ⟨Oc ⟨f1,f2⟩,.inl ⟨_,_,U,U,NF ⟨f1,f2⟩ hg⟩⟩
 | k+1,h=>by
   obtain ⟨f1,f2,f3,f4,f5,f6,f7,f8⟩:=sZ hR;obtain ⟨hs,ih⟩:=CR hR hg k sU;have hm:tH (p.code[(k:Int).toNat]?.getD default) p.regs=true:=by
    refine f8 _ ?_;rw [aG,aA sU];exact bY _
   refine ⟨HI hs hm,?_⟩;rcases ih with ⟨rs,E,h1,h2,h3⟩ | ⟨h1,h2⟩
   · cases hd:zP (p.code[(k:Int).toNat]?.getD default) rs with
     | some x =>
       obtain ⟨g1,E1,g2⟩:=RU (n:=k) hs h3 hm h2 hd;exact .inl ⟨_,E1,Es (x:=[]) h1 hd,g1,g2⟩
     | none =>
       refine .inr ⟨?_,ND (n:=k) hs h3 hm h2 hd⟩;unfold wQ;rw [h1];simp only [dX,hd,kL]
   exact .inr ⟨In h1 1,NE h2⟩
theorem CS {p:PV} {gs:List (List Int)} (hR:sW p=true) (hg:(gs.length:Int)=p.ins):tJ (yJ p) gs=tJ p gs:=by
 obtain ⟨f1,f2,f3,f4,f5,f6,f7,f8⟩:=sZ hR;obtain ⟨hs,ih⟩:=CR hR hg p.code.length (aH _);have e:wQ (yJ p) gs (yJ p).code.length=zQ (uC p p.code.length).2 (vR p gs):=by
  rw [Ad _ _ _ (aH _),bI];rfl
 unfold tJ;rw [e];rcases ih with ⟨rs,E,h1,h2,h3⟩ | ⟨h1,h2⟩
 · rw [h1,h2];show some _=some _;congr 1;show (wL p (uC p p.code.length).1.held).map _=p.outs.map _;unfold wL;rw [pW];refine lX fun r hr=>?_;have hl:=hs.len;obtain ⟨a1,a2,a3⟩:=Ac (l:=(uC p p.code.length).1.held) (r:=r) (by have:=f7 r hr;omega);show rs[(holder _ _).toNat]?.getD []=_;rw [h3.reg _ ⟨a1,by omega⟩,a3,h3.reg _ (f7 r hr)]
 rw [h1,h2];rfl
theorem RV {l:List A6} {m:Nat} (h0:0<l.length) (hd:A8 l) (hm:dg l (l.length - 1)<p2 m):sY l<p2 (16*(l.length - 1)+m):=by
 have e:=wK l (l.length - 1);rw [rK h0,vY (aH _)] at e;have h1:=yQ (hd.take (l.length - 1));rw [bM,fW sU] at h1;have h2:=fE (show dg l (l.length - 1)+1≤p2 m by omega) (fN (yU (l.length - 1)));rw [eV,iE] at h2;rw [Er,←CN];omega
theorem XL (t:Int) (m:Nat):t / 2*p2 (m+1)≤t*p2 m:=by
 rw [Ep,←bT];exact iT sU (fN (xN m))
theorem XM (t:Int) (m:Nat):(t+1)*p2 m≤(t / 2+1)*p2 (m+1):=by
 rw [Ep,←bT];exact iT sU (fN (xN m))
section
attribute [local irreducible] sY pw vG p2
theorem rq (G:A2) (a:J0 Addr) (c:Nat) (l:List A6) (ha:Arr G a l) (hd:A8 l) (h1:l.length≤536870912) :
 Does Tryz.prog 283 [.slice a l.length c] G [] (fun v G' Ho=>∃ n:Nat,v=.int .i64 (n:Int)∧sY l<p2 n∧n≤16*l.length∧G'=G∧Ho=[]):=by
 refine D0 Tryz.func283 Tryz.ntmps283 fun w=>?_;by_cases h0:l.length=0
 · refine bE 21 [1] ?_;refine cG ?_;refine ⟨0,U,?_,aP _,U,U⟩;rw [dT h0,uX,Kc];decide
 have hlast:(l[((l.length:Int) - 1).toNat]?.getD default).v=dg l (l.length - 1):=by
  unfold dg;rw [show ((l.length:Int) - 1).toNat=((l.length - 1:Nat):Int).toNat by omega]
 have hdl:=Db hd (i:=l.length - 1) sU;refine aK 21 [0] ?_;refine aZ (kH U U sU) ?_;refine aS 9 [] ?_;refine gG (α:=A6) T.sl123 ?_;refine kT 0 T.one215 ?_;refine bG 5 [] ?_;refine kY 4 U (show _=Value.int .u32 (dg l (l.length - 1)) by rw [hlast]) (kY 3 U (show _=Value.int .i64 (16*((l.length:Int) - 1)+((0:Nat):Int)) by rw [Int.natCast_zero,dV]) ?_);refine gZ (ι:=Nat×Int) (fun (m,t)=>([(3,.int .i64 (16*((l.length:Int) - 1)+(m:Int))),(4,.int .u32 t),(2,.int .i64 0)],[])) (fun (m,t)=>0≤t∧t≤65535∧t*p2 m≤dg l (l.length - 1)∧dg l (l.length - 1)<(t+1)*p2 m∧m≤16) (fun (m,t)=>t.toNat) ((0,dg l (l.length - 1))) (⟨hdl.1,by omega,by rw [Kc];omega,by rw [Kc];omega,by decide⟩) fun ⟨m,t⟩=>fun hk=>?_;obtain ⟨ht0,ht1,hlo,hhi,hm⟩:=hk;by_cases ht:0<t
 · have hm15:m<16:=by
    refine NC ?_;have h2:=iT (show (1:Int)≤t by omega) (fN (xN m));rw [CO];omega
   refine aK 20 [1] ?_;refine aZ (pI U U sU) ?_;refine aY 3 [] ?_;refine dW 3 U (show _=Value.int .i64 (16*((l.length:Int) - 1)+((m+1:Nat):Int)) by congr 1;omega) ?_;refine cO ((m+1,t / 2)) ?_ ?_
   · exact ⟨by omega,by omega,Int.le_trans (XL t m) hlo,mI hhi (XM t m),by omega⟩
   show (t / 2).toNat<t.toNat;omega
 have htz:t=0:=sU;subst htz;rw [mW,eN] at hhi;refine bE 20 [0] ?_;refine cG ?_;refine ⟨16*(l.length - 1)+m,?_,RV sU hd hhi,by omega,U,U⟩;congr 1;omega
theorem XN {l:List A6} (hd:A8 l) {k:Nat} (hk:k<16*l.length):sY l / p2 k % 2=dg l (k / 16) / p2 (k % 16) % 2:=by
 have hq:k / 16<l.length:=sU;have e:=Gs l (m:=k / 16+1) sU;rw [wK] at e;have h1:=yQ (hd.take (k / 16));have h0:=uM (hd.take (k / 16));rw [bM,fW sU] at h1;have ek:p2 k=pw (k / 16)*p2 (k % 16):=by rw [CN,←Er,mB]
 have e2:sY l=sY (l.take (k / 16))+(dg l (k / 16)+65536*sY (l.drop (k / 16+1)))*pw (k / 16):=by
  rw [e,zN,pA,dH (dg l (k / 16)),bT 65536 (pw (k / 16)),bT 65536 (sY _),dH (sY (l.drop _)) (pw _)];omega
 have e3:sY l / pw (k / 16)=dg l (k / 16)+65536*sY (l.drop (k / 16+1)):=by
  rw [e2,Int.add_mul_ediv_right _ _ (sA (yU _)),qA h0 h1,mW]
 rw [ek,←Int.ediv_ediv_of_nonneg (fN (yU _)),e3];obtain ⟨r,hr⟩:∃ r,16=k % 16+(r+1):=⟨15 - k % 16,by omega⟩
 have e4:p2 16=p2 (k % 16)*(2*p2 r):=(congrArg p2 hr).trans (by rw [Er,Ep]);rw [CO] at e4;have e5:65536*sY (l.drop (k / 16+1))=p2 (k % 16)*(2*(p2 r*sY (l.drop (k / 16+1)))):=by rw [e4,bT,bT]
 rw [e5,Int.add_mul_ediv_left _ _ (sA (xN _))];omega
theorem RW {x y:Int} (hy:0≤y):x.fdiv y=x / y:=Int.fdiv_eq_ediv_of_nonneg x hy
theorem rr (G:A2) (a:J0 Addr) (c:Nat) (l:List A6) (k:Nat) (ha:Arr G a l) (hd:A8 l) (h1:l.length≤536870912) (hk:k<16*l.length) :
 Does Tryz.prog 284 [.slice a l.length c,.int .i64 (k:Int)] G [] (fun v G' Ho=>v=.int .u32 (sY l / p2 k % 2)∧G'=G∧Ho=[]):=by
 have hq:k / 16<l.length:=sU;have hdg:=Db hd hq;refine D0 Tryz.func284 Tryz.ntmps284 fun w=>?_;refine aK 9 [] ?_;refine aZ (rU U U sU) ?_;refine gG (α:=A6) T.sl123 ?_;refine kT 0 T.one215 ?_;refine aB 1 [] ?_;refine aZ (kU U U sU) ?_;refine aZ (pE U U sU) ?_;refine aZ (mA U U) ?_;refine aY 4 [] ?_;refine cG ?_;refine ⟨?_,U,U⟩;have e1:(l[((k:Int) / 16).toNat]?.getD default).v=dg l (k / 16):=by
  unfold dg;rw [show ((k:Int) / 16).toNat=((k / 16:Nat):Int).toNat by omega]
 have e2:(2:Int) ^ min ((k:Int) % 16).toNat IntKind.u32.bits=p2 (k % 16):=by
  have e:min ((k:Int) % 16).toNat IntKind.u32.bits=k % 16:=by
   rw [show IntKind.u32.bits=32 from rfl];omega
  rw [e,show p2 (k % 16)=((2 ^ (k % 16):Nat):Int) from by unfold p2;rfl,Int.natCast_pow];rfl
 have h2:=Zd (n:=p2 (k % 16)) hdg.1 (xN _);rw [e1,e2,RW (fN (xN _)),CE _ sU,XN hd hk]
end
end Go.Proofs.YtfdcckcadfhpeaaGreatDoor
namespace Go.Proofs.YtfdcckcadfhpeaaGreatDoor.T
open Go Go.Sl
theorem fld190_1:∀ (w:I8) (v0 v1:Value),(Instr.field 190 (.agg #[v0,v1]) 1).run Tryz.prog w=.ok (#[v0,v1][1]?.getD undef) w:=fun _ _ _=>sX
end Go.Proofs.YtfdcckcadfhpeaaGreatDoor.T
namespace Go.Proofs.YtfdcckcadfhpeaaGreatDoor
open Go Go.Sl
theorem Wp {l:List A6} {i:Nat} (h:i<l.length):sY (l.drop i)=dg l i+65536*sY (l.drop (i+1)):=by
 rw [dC h,vV];unfold dg;rw [aG,aA h];rfl
theorem di {l:List A6} {i:Nat} (h:i<l.length) (d:Int):dg (l.set i ⟨d⟩) i=d:=by
 unfold dg;rw [aG,aA (by rw [aI];exact h),List.getElem_set_self];rfl
theorem HJ {la q:List A6} {i:Nat} {r B:Int} (hi:i<la.length) (hq:i<q.length) (hv:sY (la.drop (i+1))=sY (q.drop (i+1))*B+r) :
 sY (la.drop i)=sY ((q.set i ⟨(r*65536+dg la i) / B⟩).drop i)*B+(r*65536+dg la i) % B:=by
 rw [Wp hi,Wp (l:=q.set i _) (by rw [aI];exact hq),di hq,List.drop_set_of_lt sU,hv];have h:=Int.emod_add_mul_ediv (r*65536+dg la i) B;rw [pA,dH ((r*65536+dg la i) / B) B,bT 65536,eV];omega
theorem RX {r a B:Int} (hr:0≤r∧r<B) (ha:0≤a∧a<65536):0≤(r*65536+a) / B∧(r*65536+a) / B<65536:=by
 refine ⟨Int.ediv_nonneg sU sU,Int.ediv_lt_of_lt_mul sU ?_⟩;have h1:=iT (show r+1≤B by omega) (show (0:Int)≤65536 by decide);rw [dH 65536 B];omega
theorem Zk {lb:List A6} (h:lb.length=1):sY lb=dg lb 0:=by
 match lb,h with
 | [d],_=>rw [Jv];rfl
def RY (G:A2) (la lb:List A6) (v:Value):Prop:=∃ (qa ra:J0 Addr) (qc rc:Nat) (lq lr:List A6),v=.tuple #[.slice qa lq.length qc,.slice ra lr.length rc]∧Arr G qa lq∧Arr G ra lr∧A8 lq∧H3 lq∧A8 lr∧H3 lr∧
 sY la=sY lq*sY lb+sY lr∧sY lr<sY lb∧lq.length≤qc∧lr.length≤rc∧lq.length≤la.length
section
attribute [local irreducible] sY pw vG p2
theorem jn (G:A2) (a b:J0 Addr) (ca cb:Nat) (la lb:List A6) (ha:Arr G a la) (hb:Arr G b lb) (da:A8 la) (db:A8 lb) (tb:H3 lb) (h1:la.length≤536870912) (hl1:lb.length=1) :
 Does Tryz.prog 279 [.slice a la.length ca,.slice b lb.length cb] G [] (fun v G' Ho=>RY G' la lb v∧Ho=[]):=by
 have hB:0<dg lb 0:=by
  rw [←Zk hl1];exact Pm db tb (fun e=>by rw [e] at hl1;simp at hl1)
 have hB2:=Db db (show 0<lb.length by omega);have hb0:(lb[((0:Nat):Int).toNat]?.getD default).v=dg lb 0:=rfl;refine D0 Tryz.func279 Tryz.ntmps279 fun w=>?_;refine aK 19 [1] ?_;refine gM (α:=A6) 0 U T.sl123 T.el215 U U sU sU fun b1=>?_;refine bG 18 [] ?_;obtain ⟨N,hN⟩:∃ N,N=la.length:=⟨_,U⟩
 have hM:(la.length:Int).toNat=N:=sU;rw [hM];have hown:∀ r:List A6,r.length=N→A3 (some ⟨b1,0,none⟩) N r []:=fun r hr=>.inr ⟨b1,U,by rw [hr];rfl,by omega,by simp only [maxLen];omega⟩;refine kY 6 U (show _=Value.slice (some ⟨b1,0,none⟩) (List.replicate N (default:A6)).length N by rw [aM]) ?_;refine gZ (ι:=Nat×Int×List A6) (fun (k,r,q)=>([(8,.int .i64 ((k:Int) - 1)),(7,.int .u64 r),(6,.slice (some ⟨b1,0,none⟩) q.length N),(5,.slice none 0 0),(4,.slice none 0 0),(0,.slice a (List.length la) ca),(1,.slice b (List.length lb) cb)],[(0,some b1,Row 215 q [])])) (fun (k,r,q)=>k≤la.length∧q.length=N∧A8 q∧0≤r∧r<dg lb 0∧sY (la.drop k)=sY (q.drop k)*dg lb 0+r) (fun (k,r,q)=>k) ((la.length,0,List.replicate N (default:A6))) (⟨aH _,aM,rM N,by decide,hB,by rw [gT (aH _),gT Ql,uX,eR];rfl⟩) fun ⟨k,r,q⟩=>fun hk=>?_;obtain ⟨hk1,hqN,hdq,hr0,hr1,hv⟩:=hk;have hoq:=hown q hqN;rcases fQ k with rfl | hpos
 · rw [oI,oI] at hv;have hcap:=hoq.le;refine aK 16 [0] ?_;refine iF 0 U hoq fun G8 hle8 hA=>?_;refine cU 1 U (zO _ _ _ _ _ sV PQ PS) fun v1 G1 Ho1 hle1 hp=>?_;obtain ⟨tn1,rfl,htr1,rfl,rfl⟩:=hp;refine aZ (sK T.fld190_1 U U) ?_;refine aB 1 [] ?_;refine aZ (pJ U T.u215 U sU) ?_;refine eH (α:=A6) 1 [⟨r⟩] U T.sl123 T.el215 U U U U U fun b2=>?_;have hdr:A8 [(⟨r⟩:A6)]:=pM sU;refine iF 1 U (iJ (xs:=[(⟨r⟩:A6)]) Vt) fun G9 hle9 hA2=>?_;replace hA:=hA.up hle9;refine cU 2 U (zO _ _ _ _ _ sV PQ PS) fun v2 G2 Ho2 hle2 hp=>?_;obtain ⟨tn2,rfl,htr2,rfl,rfl⟩:=hp;refine aZ (sK T.fld190_1 U U) ?_;refine aY 6 [] ?_;refine jJ ?_;refine ⟨⟨B7 (some ⟨b1,0,none⟩) N 0 1,B7 (some ⟨b2,0,none⟩) 1 0 1,N,1,q.take tn1,[(⟨r⟩:A6)].take tn2,?_,Pn hA _,Pn hA2 _,hdq.take _,htr1.top,hdr.take _,htr2.top,?_,?_,?_,?_,?_⟩,U⟩
   · rw [htr1.len,htr2.len];rfl
   · rw [htr1.val,htr2.val,Jv,Zk hl1];exact hv
   · rw [htr2.val,Jv,Zk hl1];exact hr1
   · rw [htr1.len];exact bP htr1.1 hcap
   · rw [htr2.len];exact htr2.1
   rw [htr1.len,←hN,←hqN];exact htr1.1
 obtain ⟨i,rfl⟩:∃ i,k=i+1:=⟨k - 1,by omega⟩
 have hai:=Db da (show i<la.length by omega);have ei:(((i+1:Nat):Int) - 1).toNat=i:=sU;have eA:(la[(((i+1:Nat):Int) - 1).toNat]?.getD default).v=dg la i:=by unfold dg;rw [ei,aG]
 have hsl:=RX ⟨hr0,hr1⟩ hai;have hb1:0<(lb[(0:Int).toNat]?.getD default).v:=hB;have hb2:(lb[(0:Int).toNat]?.getD default).v<65536:=hB2.2;have hsl':0≤(r*65536+(la[(((i+1:Nat):Int) - 1).toNat]?.getD default).v) / (lb[(0:Int).toNat]?.getD default).v∧(r*65536+(la[(((i+1:Nat):Int) - 1).toNat]?.getD default).v) / (lb[(0:Int).toNat]?.getD default).v≤65535:=by
  rw [eA];exact ⟨hsl.1,by have:=hsl.2;show _ / dg lb 0≤_;omega⟩
 have hrm:0≤(r*65536+dg la i) % dg lb 0∧(r*65536+dg la i) % dg lb 0<dg lb 0:=⟨Int.emod_nonneg _ sU,Int.emod_lt_of_pos _ hB⟩
 refine aK 15 [1] ?_;refine aZ (We U U xL) ?_;refine aB 2 [] ?_;refine gG (α:=A6) T.sl123 ?_;refine kT 0 T.one215 ?_;refine aZ (mP U T.u214 U sU) ?_;refine aZ (sI U U sU) ?_;refine aS 9 [] ?_;refine gG (α:=A6) T.sl123 ?_;refine fS U (eE T.one215 U (jO sV sU 0 U U)) ?_;refine aZ (mP U T.u214 U sU) ?_;refine aZ (qY U U sU) ?_;refine aZ (pJ U T.u215 U sU) ?_;refine gY (α:=A6) T.sl123 ?_;refine dJ (z:=_) 0 T.size215 U U U sV sU U fun ho1=>?_;refine aS 5 [] ?_;refine gG (α:=A6) T.sl123 ?_;refine fS U (eE T.one215 U (jO sV sU 0 U U)) ?_;refine aZ (mP U T.u214 U sU) ?_;refine aZ (kU U U sU) ?_;refine aY 9 [] ?_;rw [eA];refine dW 8 U (show _=Value.int .i64 ((i:Int) - 1) by congr 1;omega) ?_;refine iV 0 (Row 215 (q.set i ⟨(r*65536+dg la i) / dg lb 0⟩) []) U (by rw [ei];rfl) ?_;refine dW 6 U (show _=Value.slice (some ⟨b1,0,none⟩) (q.set i ⟨(r*65536+dg la i) / dg lb 0⟩).length N by rw [aI]) ?_;refine cO ((i,(r*65536+dg la i) % dg lb 0,q.set i ⟨(r*65536+dg la i) / dg lb 0⟩)) ?_ ?_
 · exact ⟨by omega,by rw [aI];exact hqN,Du hdq _ hsl,hrm.1,hrm.2,HJ sU sU hv⟩
 show i<i+1;omega
end
end Go.Proofs.YtfdcckcadfhpeaaGreatDoor
end
