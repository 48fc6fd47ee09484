/- uN of the proof (part 3): what the rows' text needs of the texts that lead to it. -/
import Derived.Test.YtfdcckcadfhpeaaGreatDoorMRb
set_option linter.unusedVariables false
set_option linter.unusedSimpArgs false
set_option linter.unusedSectionVars false
set_option maxHeartbeats 4000000
noncomputable section
set_option maxRecDepth 100000
namespace Go.Sl
open Go Go.ChangeShapes Go.WideShapes Go.RowKit
def Db (W:World):Imm:=fun b=>W.heap[b]?
theorem YR (W:World):HoldH [] (Db W) W:=
 ⟨fun t b o h=>by simp [Hp.get] at h,fun t t' b o o' h=>by simp [Hp.get] at h,fun b o h=>h,fun t b o h=>by simp [Hp.get] at h⟩
theorem GS {W W':World} (h:Upd (Hp.has []) W W'):Go.RowKit.Below W.heap.size W W':=
 ⟨h.os,h.tape,h.output,h.size,fun k hk=>h.same k hk (fun ⟨t,o,hx⟩=>by simp [Hp.get] at hx)⟩
section
variable {H:Type} {enc:TypeId×Value→H} {P:Program}
theorem Fm (hl:laidOutB P=true) {W W':World} {sp':Nat→Bool}:∀ {ts:List TypeId} {vs:List Value} {ds:List (DataW H)} {ps:List MemPlace},(ts.all fun t=>P.readableRec t && decide (t<P.types.size))=true→
 DataW.TrodAll enc P W 0 (fun _=>true) true ts vs ds ps→(∀ p∈ps,W.sameAt W' p)→(∀ p∈ps,sp' p.block=true)→DataW.TrodAll enc P W' 0 sp' true ts vs ds ps
 | [],_,_,_,_,h,_,_=>by
   obtain ⟨rfl,rfl,rfl⟩:=trodAll_nil h
   exact trodAll_mk0
 | t :: ts,_,_,_,hr,h,hs,hp=>by
   obtain ⟨v,vs,d,ds,p,q,rfl,rfl,rfl,h1,h2⟩:=trodAll_cons h
   simp only [kB,aU,aS] at hr
   exact ⟨p,q,WideElems.Trod_stays hl hr.1.1 hr.1.2 h1 (fun x hx=>hs x (by simp [hx])) (fun x hx=>hp x (by simp [hx])),
    Fm hl hr.2 h2 (fun x hx=>hs x (by simp [hx])) (fun x hx=>hp x (by simp [hx])),rfl⟩
theorem Ls {w:World} {base:Nat} {sp:Nat→Bool} {hd:Bool}:∀ {ts:List TypeId} {vs:List Value} {ds:List (DataW H)} {ps:List MemPlace},DataW.TrodAll enc P w base sp hd ts vs ds ps→ds.length=ts.length
 | [],_,_,_,h=>by obtain ⟨rfl,rfl,rfl⟩:=trodAll_nil h;rfl
 | t :: ts,_,_,_,h=>by
   obtain ⟨v,vs,d,ds,p,q,rfl,rfl,rfl,h1,h2⟩:=trodAll_cons h
   simp [Ls h2]
theorem GU {f:Func} {n:FuncId} {s:ChangeSpec} {tb:TypeId} {apart fresh handsOn again:Bool} (hl:laidOutB P=true) (hr:(f.params.toList.all fun t=>P.readableRec t && decide (t<P.types.size))=true) (hres:f.resultTypes=#[tb]) (hb:P.underlying tb=some .bool)
 (hv:s.vars=[]) (hs:∀ ds:List (DataW H),ds.length=f.params.toList.length→s.fn H ds={ results:=[.lit (.bool true)],args:=ds }) {W:World} {args:Array Value} {ds gs:List (DataW H)} {before:List MemPlace}
 (hW:DataW.Whole enc P f.params.toList s.vars apart W args.toList ds gs before) (hd:Does P n args.toList (Db W) [] (fun v _ _=>v=.bool true)) :
 Calls P n args W fun e W'=>∃ v,e=.returned v∧s.post enc P f apart fresh handsOn again W args v W':=by
 refine (hd W (YR W)).mono fun e W' ⟨v,G',Ho,he,q1,q2,q3,q4,q5,hvv⟩=>⟨v,he,?_⟩
 subst hvv
 have hbel:=GS q3
 have hW':=hW
 have hlt:=hW.lt
 obtain ⟨p,q,hA,hV,rfl,hz,hn⟩:=hW
 rw [hv] at hV
 obtain ⟨rfl,rfl⟩:=trodVars_none hV
 simp only [bR] at hW' hlt hz hn
 have hlen:=Ls hA
 have hspec:=hs ds hlen
 have hres':∀ (b:Nat) (sp:Nat→Bool) (hd:Bool),DataW.TrodAll enc P W' b sp hd f.resultTypes.toList ((Value.bool true).resultList f.resultTypes.size) (s.fn H (ds++[])).results []:=fun b sp hd=>by
  rw [bR,hspec,hres]
  exact ⟨[],[],shut_bool hb _,trodAll_mk0,rfl⟩
 have hargs:∀ sp:Nat→Bool,(∀ x∈p,sp x.block=true)→DataW.TrodAll enc P W' 0 sp true f.params.toList args.toList (s.fn H (ds++[])).args p:=fun sp hsp=>by
  rw [bR,hspec]
  exact Fm hl hr hA (fun x hx=>hbel.same (hlt x hx)) hsp
 have hvars:∀ sp:Nat→Bool,DataW.TrodVars enc P W' sp s.vars (s.fn H (ds++[])).vars []:=fun sp=>by
  rw [bR,hspec,hv];exact rfl
 have hold:∀ x∈p,(fun b=>decide (b<W.heap.size)) x.block=true:=fun x hx=>by simpa using hlt x hx
 refine ⟨ds,[],p,[],p,[],by simpa using hW',hres' _ _ _,hargs _ hold,hvars _,World.keptBut_mono (fun x hx=>⟨hx,.inr (by simpa using hx)⟩) (hbel.frame _),fun _=>?_⟩
 refine ⟨ok_one hres rfl (okWide_bool_mk hb _),_,_,([]++p)++[],⟨[]++p,[],trodAll_append (hargs _ (fun _ _=>rfl)) (hres' _ _ _),hvars _,rfl,?_,?_⟩,?_⟩
 · intro b off hp
   have hp':MemPlace.cell b off∈p:=by simpa using hp
   rw [hbel.frozen (by exact hlt _ hp')]
   exact hz b off hp'
 · intro ha
   simpa using hn ha
 intro x hx _
 simpa using hx
end
theorem Ns {W:World} {b o:Nat} {v:Value} (h:W.cell? ⟨b,o,none⟩=some v):(Db W).cell b o=some v:=by
 unfold World.cell? at h
 unfold Imm.cell Db
 split at h
 · rename_i c t fz hb
   rw [show W.heap[b]?=some (.cells c t fz) from hb]
   exact h
 cases h
theorem Rx {W:World} {a:Addr} {v:Value} (h:W.cell? a=some v):a.spot=none:=by
 unfold World.cell? at h
 split at h
 · cases hs:a.spot with
   | none=>rfl
   | some x=>simp [hs] at h
 cases h
theorem KQ {a:Addr} {i:Nat} (h:(a.add i).spot=none) (ha:i=0∨True):a.add i=⟨a.block,a.off+i,none⟩:=by
 unfold Addr.add at h ⊢
 split
 · rename_i h0
   subst h0
   rw [aF rfl] at h
   cases a
   simp_all
 rfl
section
variable {H:Type} {enc:TypeId×Value→H} {P:Program} {α:Type} [Cells α] [Inhabited α]
def bz (enc:TypeId×Value→H) (P:Program) (W:World) (E:TypeId) (Good:α→DataW H→Prop):Prop:=
 ∀ (n:Nat) (cs:List Value) (x:DataW H×List MemPlace),DataW.trod enc P W 0 (fun _=>true) true n E cs=some x→∃ y:α,cs=Cells.enc y∧Good y x.1
theorem Us {W:World} {b o:Nat} {xs:List α} (h:∀ i,i<xs.length→∀ j,j<Cells.sz α→W.cell? ⟨b,o+(i*Cells.sz α+j),none⟩=(Cells.enc (xs[i]?.getD default))[j]?) (h0:0<Cells.sz α):(Db W).row b o (sY xs):=by
 intro q v hq
 have hlt:q<(sY xs).length:=(bZ.1 hq).1
 rw [sV] at hlt
 have h1:q=(q / Cells.sz α)*Cells.sz α+q % Cells.sz α:=by rw [Nat.mul_comm];exact (nX q _).symm
 have h2:q % Cells.sz α<Cells.sz α:=Nat.mod_lt _ h0
 have h3:q / Cells.sz α<xs.length:=(Nat.div_lt_iff_lt_mul h0).2 hlt
 have h4:=Dm xs _ _ h3 h2
 rw [←h1,hq] at h4
 have h5:=h _ h3 _ h2
 rw [←h1,←h4] at h5
 exact Ns h5
theorem Nt {W:World} {T E:TypeId} {Good:α→DataW H→Prop} {fuel:Nat} {cs:List Value} {x:DataW H×List MemPlace} (ht:P.underlying T=some (.slice E)) (hsz:P.cellsOf E=Cells.sz α) (h0:0<Cells.sz α)
 (dec:bz (α:=α) enc P W E Good) (h:DataW.trod enc P W 0 (fun _=>true) true fuel T cs=some x) :
 ∃ (a:Option Addr) (cap:Nat) (xs:List α),cs=[.slice a xs.length cap]∧Arr (Db W) a xs∧xs.length≤cap∧
  ((x.1=.nil∧xs=[])∨∃ l r,x.1=.slice l r∧l.length=xs.length∧∀ i,i<xs.length→∃ d,l[i]?=some d∧Good (xs[i]?.getD default) d):=by
 rcases Deep.open_slice ht h with ⟨rfl,rfl⟩ | ⟨a,len,cap,m,n,D,Pl,rfl,hb,hlc,hm,hmm,rfl,hx⟩
 · exact ⟨none,0,[],rfl,kE _,aH _,.inl ⟨rfl,rfl⟩⟩
 have hml:m=cap:=by rw [hmm];simp
 have hel:∀ i,i<len→∃ y:α,W.cells? 0 (a.add (i*Cells.sz α)) (Cells.sz α)=some (Cells.enc y)∧Good y (D i):=fun i hi=>by
  obtain ⟨cs',h1,h2⟩:=hx i sE
  obtain ⟨y,rfl,hg⟩:=dec _ _ _ h2
  rw [hsz] at h1
  exact ⟨y,h1,hg⟩
 obtain ⟨Y,hY⟩:=Deep.choose_lt hel
 have hlen:((List.range len).map Y).length=len:=tR
 have hget:∀ i,i<len→((List.range len).map Y)[i]?.getD default=Y i:=fun i hi=>by simp [hi]
 refine ⟨some a,cap,(List.range len).map Y,by rw [hlen],⟨sV _,?_⟩,by rw [hlen];exact hlc,.inr ⟨_,_,rfl,by simp,fun i hi=>?_⟩⟩
 · rw [hlen]
   rcases fZ len with h00 | hpos
   · exact .inl h00
   refine .inr ⟨a.block,a.off,?_,?_⟩
   · have h1:=(World.cells?_some (hY 0 hpos).1).2.2 0 h0
     rw [pV] at h1
     have h2:∃ v,(Cells.enc (Y 0))[0]?=some v:=⟨_,aA (by rw [Cells.len];exact h0)⟩
     obtain ⟨v,hv⟩:=h2
     rw [hv] at h1
     have h3:=Rx h1
     cases a
     simp only [Addr.add] at h3
     simp_all
   refine Us (fun i hi j hj=>?_) h0
   rw [hlen] at hi
   rw [hget i hi]
   have h1:=(World.cells?_some (hY i hi).1).2.2 j hj
   have h2:∃ v,(Cells.enc (Y i))[j]?=some v:=⟨_,aA (by rw [Cells.len];exact hj)⟩
   obtain ⟨v,hv⟩:=h2
   rw [hv] at h1 ⊢
   rw [Deep.add_add] at h1
   have h3:=Rx h1
   rw [KQ h3 (.inr trivial)] at h1
   exact h1
 rw [hlen] at hi
 rw [hget i hi]
 exact ⟨D i,by simp [hi],(hY i hi).2⟩
theorem RG {W:World} {E:TypeId} (he:P.underlying E=some (.int .i64)):bz (α:=Int) enc P W E (fun y d=>d=.lit (.int .i64 y)∧(Lit.int .i64 y).wf=true):=fun n cs x h=>by
 obtain ⟨k,rfl,rfl,hw⟩:=qW he h
 exact ⟨k,rfl,rfl,hw⟩
end
end Go.Sl
namespace Go.Proofs.YtfdcckcadfhpeaaGreatDoor
open Go Go.Sl Go.ChangeShapes Go.WideShapes Go.RowKit Go.Joins
abbrev VD : List (String × DataW Unit) := [("math/bits.deBruijn32tab", Rows.laid_math_bits_deBruijn32tab), ("math/bits.deBruijn64tab", Rows.laid_math_bits_deBruijn64tab)]
def KR:List Int:=[0,1,56,2,57,49,28,3,61,58,42,50,38,29,17,4,62,47,59,36,45,43,51,22,53,39,33,30,24,18,12,5,63,55,48,27,60,41,37,16,46,35,44,21,52,32,23,11,54,26,40,15,34,20,31,10,25,14,19,9,13,8,7,6]
theorem cu:Tryz.prog.underlying 4=some .bool:=sG
theorem RH:laidOutB Tryz.prog=true:=sG
theorem own:ownKnob Tryz.prog.godebug=none:=sG
theorem YS : Tryz.prog.globalNamed "math/bits.deBruijn64tab" = some 1 := by kernel_rfl
theorem KS:(Tryz.prog.globals[1]?).map (·.type)=some 296:=sG
theorem WE:Tryz.prog.underlying 296=some (.array 64 5):=sG
theorem cx:Tryz.prog.underlying 5=some (.int .u8):=sG
theorem KT:Tryz.prog.cellsOf 296=64:=sG
theorem WF:Tryz.prog.cellsOf 5=1:=sG
theorem YT {W : World} (h : laidMetH Tryz.prog VD W) : Lib.TabIs Tryz.prog W "math/bits.deBruijn64tab" .u8 KR := by
 have h1 := h.filter (fun x => x.1 == "math/bits.deBruijn64tab")
 have e : VD.filter (fun x => x.1 == "math/bits.deBruijn64tab") = [("math/bits.deBruijn64tab", Rows.laid_math_bits_deBruijn64tab)] := by kernel_rfl
 rw [e] at h1
 exact Lib.tabIs_of_head (rest:=[]) YS KS WE cx WF KT h1
theorem WG {W:World} (h:laidMetH Tryz.prog VD W):TabOk (Db W):=fun k v hv=>by
 have hk:k<KR.length:=by
  have:=(bZ.1 hv).1
  simpa [DZ,KR] using this
 have h1:=(YT h).cell YS k hk
 have h2:=Ns h1
 rw [h2]
 have e:DZ=KR.map fun n=>.int .u8 n:=rfl
 rw [e,bN,aA hk] at hv
 rw [←hv,List.getD_eq_getElem?_getD,aA hk];rfl
def KU (cs:Array Value):Obj→Obj
 | .cells _ t frozen=>.cells cs t frozen
 | o=>o
def Jy (os:Os):World:=
 { World.holding Tryz.prog os ⟨#[],#[],[]⟩ with heap:=((World.holding Tryz.prog os ⟨#[],#[],[]⟩).heap.modify 0 (KU #[.int .u8 0,.int .u8 1,.int .u8 28,.int .u8 2,.int .u8 29,.int .u8 14,.int .u8 24,.int .u8 3,.int .u8 30,.int .u8 22,.int .u8 20,.int .u8 15,.int .u8 25,.int .u8 17,.int .u8 4,.int .u8 8,.int .u8 31,.int .u8 27,.int .u8 13,.int .u8 23,.int .u8 21,.int .u8 19,.int .u8 16,.int .u8 7,.int .u8 26,.int .u8 12,.int .u8 18,.int .u8 6,.int .u8 11,.int .u8 5,.int .u8 10,.int .u8 9])).modify 1 (KU DZ.toArray) }
end Go.Proofs.YtfdcckcadfhpeaaGreatDoor
namespace Go.Sl
open Go
def Lims (l:List U32):Prop:=∀ d∈l,0≤d.v∧d.v<4294967296
def sI:List U32→Int
 | []=>0
 | d :: l=>d.v+4294967296*sI l
def pb (n:Nat):Int:=((4294967296 ^ n:Nat):Int)
theorem Mk:pb 0=1:=rfl
theorem wY (n:Nat):pb (n+1)=4294967296*pb n:=by unfold pb;rw [pW,Nat.mul_comm,jQ];rfl
theorem xO (n:Nat):0<pb n:=by unfold pb;exact Int.ofNat_lt.2 (pA sN)
theorem CF (m n:Nat):pb (m+n)=pb m*pb n:=by unfold pb;rw [mP,jQ]
theorem Nu {m n:Nat} (h:m≤n):pb m≤pb n:=by unfold pb;exact Int.ofNat_le.2 (gU sN h)
theorem tV:sI []=0:=rfl
theorem uM (d:U32) (l:List U32):sI (d :: l)=d.v+4294967296*sI l:=rfl
theorem Lims.nil:Lims []:=fun d h=>by simp at h
theorem Lims.tail {d:U32} {l:List U32} (h:Lims (d :: l)):Lims l:=fun x hx=>h x (aY _ hx)
theorem Lims.head {d:U32} {l:List U32} (h:Lims (d :: l)):0≤d.v∧d.v<4294967296:=h d bF
theorem Lims.append {l m:List U32} (h:Lims l) (h':Lims m):Lims (l++m):=fun x hx=>by
 rcases gW.1 hx with h1 | h1
 · exact h x h1
 exact h' x h1
theorem Lims.one {d:Int} (h:0≤d∧d<4294967296):Lims [⟨d⟩]:=fun x hx=>by
 have:x=⟨d⟩:=by simpa using hx
 subst this;exact h
theorem Lims.take {l:List U32} (h:Lims l) (n:Nat):Lims (l.take n):=fun x hx=>h x (nQ hx)
theorem Lims.at {l:List U32} (h:Lims l) {m:Int} (hm:0≤m∧m<l.length):0≤(l[m.toNat]?.getD default).v∧(l[m.toNat]?.getD default).v<4294967296:=by
 have hl:m.toNat<l.length:=sE
 rw [aA hl];exact h _ (bI hl)
theorem tS:∀ {l:List U32},Lims l→0≤sI l
 | [],_=>kP 0
 | d :: l,h=>by
   have h1:=tS h.tail
   have h2:=h.head
   rw [uM];omega
theorem vW:∀ {l:List U32},Lims l→sI l<pb l.length
 | [],_=>sN
 | d :: l,h=>by
   have h1:=vW h.tail
   have h2:=h.head
   rw [uM,aW,wY];omega
theorem uH:∀ (l m:List U32),sI (l++m)=sI l+pb l.length*sI m
 | [],m=>by rw [fW,tV,cH,Mk];omega
 | d :: l,m=>by
   rw [List.cons_append,uM,uM,uH l m,aW,wY,cF,←cE];omega
theorem Dt (d:U32):sI [d]=d.v:=by rw [uM,tV];omega
theorem GV (l:List U32) (d:U32):sI (l++[d])=sI l+pb l.length*d.v:=by rw [uH,Dt]
theorem Du {l:List U32} {k:Nat} (h:k<l.length):sI (l.take (k+1))=sI (l.take k)+pb k*(l[((k:Nat):Int).toNat]?.getD default).v:=by
 rw [cB,aE,aA h]
 simp only [Option.toList_some,dK]
 rw [GV,bG,dG (Nat.le_of_lt h)]
theorem Ao (n:Nat):sI (List.replicate n ⟨0⟩)=0:=by
 induction n with
 | zero=>rfl
 | succ n ih=>rw [oE,uM,ih];rfl
theorem CG (n:Nat):Lims (List.replicate n ⟨0⟩):=fun x hx=>by
 have:=iX hx
 subst this;exact ⟨by decide,by decide⟩
abbrev nH:=@CG
theorem GW {l:List U32} {n:Nat} (h:∀ j,n≤j→j<l.length→(l[j]?.getD default).v=0):sI (l.take n)=sI l:=by
 rcases aK n l.length with hn | hn
 · have e:l=l.take n++l.drop n:=(fC n l).symm
   have hz:∀ (m:List U32),(∀ j,j<m.length→(m[j]?.getD default).v=0)→sI m=0:=by
    intro m
    induction m with
    | nil=>intro _;rfl
    | cons d m ih =>
      intro h0
      have h1:=h0 0 tR
      simp only [List.getElem?_cons_zero,dK] at h1
      rw [uM,h1,ih fun j hj=>by have:=h0 (j+1) (by simpa using hj);simpa using this];rfl
   have h2:sI (l.drop n)=0:=hz _ fun j hj=>by
    rw [kT]
    exact h (n+j) sE (by rw [gE] at hj;omega)
   have h3:sI l=sI (l.take n++l.drop n):=by rw [fC]
   rw [h3,uH,h2];omega
 rw [tO hn]
theorem Ml {l:List U32} (hd:Lims l) (ht:Top l) (h0:l≠[]):pb (l.length - 1)≤sI l:=by
 have hl:0<l.length:=List.length_pos_iff.2 h0
 have h1:(l[l.length - 1]?.getD default).v≠0:=by
  rcases ht with h | h
  · exact absurd h h0
  exact h
 have h2:=Du (l:=l) (k:=l.length - 1) sE
 rw [Nat.sub_add_cancel hl,tO (aH _),aE] at h2
 have h3:=tS (hd.take (l.length - 1))
 have h4:(1:Int)≤(l[l.length - 1]?.getD default).v:=by
  have:=hd.at (m:=((l.length - 1:Nat):Int)) sE
  rw [aE] at this
  omega
 have h5:=bU h4 (dW (xO (l.length - 1)))
 omega
theorem Xw {l:List U32} (hd:Lims l) (ht:Top l) {m:Nat} (h:sI l<pb m):l.length≤m:=by
 by_cases h0:l=[]
 · subst h0;exact aM _
 have h1:=Ml hd ht h0
 rcases aK m l.length with h2 | h2
 · have h3:=Nu (show m≤l.length - 1 by omega)
   omega
 exact h2
theorem Nv {l:List U32} (hd:Lims l) (ht:Top l) (h0:l≠[]):0<sI l:=mN (xO _) (Ml hd ht h0)
theorem zA {l m:List U32} (hl:Lims l) (hm:Lims m) (tm:Top m) (h:l.length<m.length):sI l<sI m:=by
 have h1:=vW hl
 have h2:=Ml hm tm (fun e=>by rw [e] at h;simp at h)
 have h3:=Nu (show l.length≤m.length - 1 by omega)
 omega
structure IsBig (neg:Bool) (l:List U32) (z:Int):Prop where
 digs:Lims l
 top:Top l
 sign:l=[]→neg=false
 val:z=if neg=true then -sI l else sI l
theorem IsBig.abs {neg:Bool} {l:List U32} {z:Int} (h:IsBig neg l z):sI l=z.natAbs:=by
 have h1:=tS h.digs
 have h2:=h.val
 split at h2 <;> omega
theorem IsBig.neg_iff {neg:Bool} {l:List U32} {z:Int} (h:IsBig neg l z):neg=decide (z<0):=by
 have h2:=h.val
 by_cases h0:l=[]
 · have h3:=h.sign h0
   subst h0
   rw [h3] at h2 ⊢
   rw [tV] at h2
   have:¬z<0:=by simp at h2;omega
   simp [this]
 have h1:=Nv h.digs h.top h0
 cases neg with
 | true =>
   rw [aF rfl] at h2
   have:z<0:=sE
   simp [this]
 | false =>
   rw [aD (by decide)] at h2
   have:¬z<0:=sE
   simp [this]
theorem IsBig.zero_iff {neg:Bool} {l:List U32} {z:Int} (h:IsBig neg l z):l.length=0↔z=0:=by
 have h2:=h.val
 constructor
 · intro h0
   have h0:=dT h0
   subst h0
   rw [tV] at h2
   split at h2 <;> omega
 intro hz
 by_cases h0:l=[]
 · rw [h0];rfl
 have h1:=Nv h.digs h.top h0
 split at h2 <;> omega
theorem IsBig.len {neg:Bool} {l:List U32} {z:Int} (h:IsBig neg l z) {m:Nat} (hz:(z.natAbs:Int)<pb m):l.length≤m:=by
 refine Xw h.digs h.top ?_
 rw [h.abs];exact hz
def Big (G:Imm) (x:IV) (z:Int):Prop:=∃ l:List U32,l.length=x.n∧x.n≤x.c∧Arr G x.a l∧IsBig x.neg l z
theorem Big.up {G G':Imm} {x:IV} {z:Int} (h:Big G x z) (hl:G.le G'):Big G' x z:=by
 obtain ⟨l,h1,h0,h2,h3⟩:=h
 exact ⟨l,h1,h0,h2.up hl,h3⟩
theorem Big.zero (G:Imm):Big G ⟨false,none,0,0⟩ 0:=⟨[],rfl,aH _,kE G,⟨Lims.nil,Top.nil,fun _=>rfl,rfl⟩⟩
theorem bits_and_u64_nat (a b:Nat) (ha:a<18446744073709551616) (hb:b<18446744073709551616):bits .and .u64 (a:Int) (b:Int)=((a &&& b:Nat):Int):=by
 have hx:a &&& b<2 ^ 64:=Nat.and_lt_two_pow _ sE
 have h1:(BitVec.ofInt 64 (a:Int)).toNat=a:=by
  rw [jX,kX];exact lX sE
 have h2:(BitVec.ofInt 64 (b:Int)).toNat=b:=by
  rw [jX,kX];exact lX sE
 show IntKind.u64.wrap ((BitVec.ofInt 64 (a:Int) &&& BitVec.ofInt 64 (b:Int)).toNat:Int)=_
 rw [BitVec.toNat_and,h1,h2,nI]
 omega
theorem bits_or_u64_nat (a b:Nat) (ha:a<18446744073709551616) (hb:b<18446744073709551616):bits .or .u64 (a:Int) (b:Int)=((a ||| b:Nat):Int):=by
 have hx:a ||| b<2 ^ 64:=Nat.or_lt_two_pow sE sE
 have h1:(BitVec.ofInt 64 (a:Int)).toNat=a:=by
  rw [jX,kX];exact lX sE
 have h2:(BitVec.ofInt 64 (b:Int)).toNat=b:=by
  rw [jX,kX];exact lX sE
 show IntKind.u64.wrap ((BitVec.ofInt 64 (a:Int) ||| BitVec.ofInt 64 (b:Int)).toNat:Int)=_
 rw [BitVec.toNat_or,h1,h2,nI]
 omega
theorem Xx (x:Int) (h:0≤x∧x<18446744073709551616):bits .and .u64 x 1=x % 2:=by
 have h1:=bits_and_u64_nat x.toNat 1 sE sE
 rw [Nat.and_one_is_mod,cS h.1] at h1
 have h2:((x.toNat % 2:Nat):Int)=x % 2:=sE
 exact h1.trans h2
theorem Xy (x:Int) (h:0≤x∧x<18446744073709551616):bits .and .u64 x 4294967295=x % 4294967296:=by
 have h1:=bits_and_u64_nat x.toNat 4294967295 sE sE
 rw [show (4294967295:Nat)=2 ^ 32 - 1 by decide,rW,cS h.1] at h1
 have h2:((x.toNat % 2 ^ 32:Nat):Int)=x % 4294967296:=sE
 exact h1.trans h2
theorem CH (x y:Int) (hx:0≤x∧x<4294967296) (hy:0≤y∧y<4294967296):bits .or .u64 (x*4294967296) y=x*4294967296+y:=by
 have h1:=bits_or_u64_nat (2 ^ 32*x.toNat) y.toNat sE sE
 rw [←lF (b:=y.toNat) (i:=32) sE x.toNat] at h1
 have e1:((2 ^ 32*x.toNat:Nat):Int)=x*4294967296:=sE
 have e2:((2 ^ 32*x.toNat+y.toNat:Nat):Int)=x*4294967296+y:=sE
 rw [e1,e2,cS hy.1] at h1
 exact h1
theorem Xz (x y:Int) (hx:0≤x∧x<4294967296) (hy:0≤y∧y<4294967296):bits .or .u64 y (x*4294967296)=x*4294967296+y:=by
 have h1:=bits_or_u64_nat y.toNat (2 ^ 32*x.toNat) sE sE
 rw [Nat.or_comm,←lF (b:=y.toNat) (i:=32) sE x.toNat] at h1
 have e1:((2 ^ 32*x.toNat:Nat):Int)=x*4294967296:=sE
 have e2:((2 ^ 32*x.toNat+y.toNat:Nat):Int)=x*4294967296+y:=sE
 rw [e1,e2,cS hy.1] at h1
 exact h1
theorem Lt (x y:Int) (s:Nat) (hx:0≤x∧x<((2 ^ s:Nat):Int)) (hy:0≤y∧y<4294967296) (hs:s≤32) (hm:y % ((2 ^ s:Nat):Int)=0):bits .or .u32 x y=x+y:=by
 have hp:2 ^ s≤2 ^ 32:=gU sN hs
 have h1:=Md x.toNat y.toNat sE sE
 have hm':y.toNat % 2 ^ s=0:=by
  have h2:((y.toNat % 2 ^ s:Nat):Int)=0:=by rw [Int.natCast_emod,cS hy.1];exact hm
  exact Int.ofNat_eq_zero.1 h2
 have h3:=nX y.toNat (2 ^ s)
 rw [hm',jU] at h3
 have h4:=lF (b:=x.toNat) (i:=s) sE (y.toNat / 2 ^ s)
 rw [h3] at h4
 rw [Nat.or_comm,←h4,cS hx.1,cS hy.1] at h1
 rw [h1]
 omega
section
variable {P:Program} {e:Env} {H:Hp} {G:Imm} {ty:TypeId} {t t':TypeId} {x y:Operand} {m n:Int} {k:IntKind}
theorem KV (hx:e.ev x=some (.int .u64 m)) (hy:e.ev y=some (.int k 32)) (h0:0≤m):Qy P (.binOp .shr t x y t') ty e H G (.int .u64 (m / 4294967296)):=by
 have h:=nV (P:=P) (H:=H) (G:=G) (ty:=ty) (t:=t) (t':=t') hx hy sN
 have e1:m.fdiv (2 ^ (Min.min (32:Int).toNat IntKind.u64.bits))=m / 4294967296:=by
  rw [show Min.min (32:Int).toNat IntKind.u64.bits=32 by decide]
  exact oS _ sN
 rw [e1] at h;exact h
abbrev gD:=@KV
theorem KW (hx:e.ev x=some (.int .u64 m)) (hy:e.ev y=some (.int k 32)) (h0:0≤m∧m<4294967296):Qy P (.binOp .shl t x y t') ty e H G (.int .u64 (m*4294967296)):=by
 have h:=Qy.shl (P:=P) (H:=H) (G:=G) (ty:=ty) (t:=t) (t':=t') hx hy sN
 have e1:IntKind.u64.wrap (m*2 ^ (Min.min (32:Int).toNat IntKind.u64.bits))=m*4294967296:=by
  rw [show Min.min (32:Int).toNat IntKind.u64.bits=32 by decide]
  exact kH _ sE
 rw [e1] at h;exact h
abbrev rI:=@KW
theorem CI {s:TypeId} (hs:(P.underlying s).isSome=true) (ht:P.underlying t=some (.int .u32)) (hx:e.ev x=some (.int .u64 m)):Qy P (.convert s t x) ty e H G (.int .u32 (m % 4294967296)):=by
 have h:=fN (P:=P) (H:=H) (G:=G) (ty:=ty) hs ht hx
 rw [IntKind.wrap_u32] at h
 exact h
abbrev iJ:=@CI
theorem RI (hx:e.ev x=some (.int .u64 m)) (hy:e.ev y=some (.int .u64 1)) (h0:0≤m∧m<18446744073709551616):Qy P (.binOp .and t x y t') ty e H G (.int .u64 (m % 2)):=by
 have h:=lD (P:=P) (H:=H) (G:=G) (ty:=ty) (t:=t) (t':=t') hx hy
 rw [Xx m h0] at h;exact h
abbrev oJ:=@RI
theorem GX (hx:e.ev x=some (.int .u64 m)) (hy:e.ev y=some (.int .u64 4294967295)) (h0:0≤m∧m<18446744073709551616):Qy P (.binOp .and t x y t') ty e H G (.int .u64 (m % 4294967296)):=by
 have h:=lD (P:=P) (H:=H) (G:=G) (ty:=ty) (t:=t) (t':=t') hx hy
 rw [Xy m h0] at h;exact h
abbrev pL:=@GX
theorem Hu (hx:e.ev x=some (.int .u64 (m*4294967296))) (hy:e.ev y=some (.int .u64 n)) (h0:0≤m∧m<4294967296) (h1:0≤n∧n<4294967296):Qy P (.binOp .or t x y t') ty e H G (.int .u64 (m*4294967296+n)):=by
 have h:=rV (P:=P) (H:=H) (G:=G) (ty:=ty) (t:=t) (t':=t') hx hy
 rw [CH m n h0 h1] at h;exact h
theorem GY (hx:e.ev x=some (.int .u64 n)) (hy:e.ev y=some (.int .u64 (m*4294967296))) (h0:0≤m∧m<4294967296) (h1:0≤n∧n<4294967296):Qy P (.binOp .or t x y t') ty e H G (.int .u64 (m*4294967296+n)):=by
 have h:=rV (P:=P) (H:=H) (G:=G) (ty:=ty) (t:=t) (t':=t') hx hy
 rw [Xz m n h0 h1] at h;exact h
theorem RK {s:Nat} (hx:e.ev x=some (.int .u64 m)) (hy:e.ev y=some (.int k (s:Int))) (h0:0≤m∧m<4294967296) (hs:s≤32):Qy P (.binOp .shl t x y t') ty e H G (.int .u64 (m*((2 ^ s:Nat):Int))):=by
 have h:=Qy.shl (P:=P) (H:=H) (G:=G) (ty:=ty) (t:=t) (t':=t') hx hy sE
 have e1:IntKind.u64.wrap (m*2 ^ (Min.min (s:Int).toNat IntKind.u64.bits))=m*((2 ^ s:Nat):Int):=by
  rw [aE,dG (aV hs sN)]
  have e2:(2:Int) ^ s=((2 ^ s:Nat):Int):=by rw [Int.natCast_pow];rfl
  rw [e2]
  have hp:(1:Int)≤((2 ^ s:Nat):Int)∧((2 ^ s:Nat):Int)≤4294967296:=by
   have h1:0<2 ^ s:=pA sN
   have h2:2 ^ s≤2 ^ 32:=gU sN hs
   omega
  have h3:=bU hp.2 h0.1
  have h4:=kI h0.1 (show (0:Int)≤((2 ^ s:Nat):Int) by omega)
  exact kH _ sE
 rw [e1] at h;exact h
theorem EA {s:Nat} (hx:e.ev x=some (.int .u64 m)) (hy:e.ev y=some (.int k (s:Int))) (h0:0≤m) (hs:s≤32):Qy P (.binOp .shr t x y t') ty e H G (.int .u64 (m / ((2 ^ s:Nat):Int))):=by
 have h:=nV (P:=P) (H:=H) (G:=G) (ty:=ty) (t:=t) (t':=t') hx hy sE
 have e1:m.fdiv (2 ^ (Min.min (s:Int).toNat IntKind.u64.bits))=m / ((2 ^ s:Nat):Int):=by
  rw [aE,dG (aV hs sN)]
  have e2:(2:Int) ^ s=((2 ^ s:Nat):Int):=by rw [Int.natCast_pow];rfl
  rw [e2]
  exact oS _ (rH _)
 rw [e1] at h;exact h
end
theorem Ut (P s:Int):P*(s % 4294967296)+4294967296*P*(s / 4294967296)=P*s:=by
 have h:=jL s 4294967296
 have e:4294967296*P*(s / 4294967296)=P*(4294967296*(s / 4294967296)):=by rw [cD 4294967296 P,cE]
 rw [e,←cF,h]
def lg (l:List U32) (i:Nat):Int:=(l[((i:Nat):Int).toNat]?.getD default).v
theorem Bf {l:List U32} (h:Lims l) {i:Nat} (hi:i<l.length):0≤lg l i∧lg l i<4294967296:=h.at sE
theorem Dv {l:List U32} {i:Nat} (hi:l.length≤i):lg l i=0:=by
 unfold lg;rw [aE,bP hi];rfl
theorem vG {l:List U32} (h:Lims l) (i:Nat):0≤lg l i∧lg l i<4294967296:=by
 rcases aK i l.length with h1 | h1
 · exact Bf h h1
 rw [Dv h1];decide
theorem Ge {l:List U32} {i:Nat} (h:i<l.length) (d:Int):lg (l.set i ⟨d⟩) i=d:=by
 unfold lg
 rw [aE,aA (by rw [aG];exact h),List.getElem_set_self];rfl
theorem yO {l:List U32} {i j:Nat} (h:i≠j) (d:U32):lg (l.set i d) j=lg l j:=by
 unfold lg
 rw [aE,List.getElem?_set_ne h]
theorem tX (l:List U32) (i:Nat):sI (l.take (i+1))=sI (l.take i)+pb i*lg l i:=by
 rcases aK i l.length with h | h
 · exact Du h
 rw [tO h,tO sE,Dv h,bL,eV]
theorem wM {l:List U32} {i:Nat} (h:i<l.length):sI (l.drop i)=lg l i+4294967296*sI (l.drop (i+1)):=by
 rw [dM h,uM]
 unfold lg
 rw [aE,aA h];rfl
theorem Ap (l:List U32) {m:Nat} (h:m≤l.length):sI l=sI (l.take m)+pb m*sI (l.drop m):=by
 have h1:sI l=sI (l.take m++l.drop m):=by rw [fC]
 rw [h1,uH,bG,dG h]
theorem Bv:∀ (l:List U32) (k:Nat) (d:U32),k<l.length→sI (l.set k d)=sI l+pb k*(d.v - lg l k)
 | [],k,d,h=>by simp at h
 | x :: l,0,d,_=>by
   rw [List.set_cons_zero,uM,uM,Mk]
   show _=_+1*(d.v - x.v)
   omega
 | x :: l,k+1,d,h=>by
   have ih:=Bv l k d (by simpa using h)
   have e:lg (x :: l) (k+1)=lg l k:=by unfold lg;rw [aE,aE,iE]
   rw [List.set_cons_succ,uM,uM,ih,wY,e,cF,←cE]
   omega
theorem tT {l:List U32} (h:Lims l) (k:Nat) {s:Int} (hs:0≤s∧s<4294967296):Lims (l.set k ⟨s⟩):=fun d hd=>by
 rcases eN hd with h1 | h1
 · exact h d h1
 subst h1;exact hs
theorem Fp (s:Int):0≤s % 4294967296∧s % 4294967296<4294967296:=⟨kY _ sN,gA _ sN⟩
def Trim (l:List U32) (n:Nat):Prop:=n≤l.length∧(∀ j,n≤j→j<l.length→(l[j]?.getD default).v=0)∧(n=0∨(l[n - 1]?.getD default).v≠0)
theorem Trim.val {l:List U32} {n:Nat} (h:Trim l n):sI (l.take n)=sI l:=GW h.2.1
theorem Trim.top {l:List U32} {n:Nat} (h:Trim l n):Top (l.take n):=by
 obtain ⟨h1,h2,h3⟩:=h
 rcases h3 with h3 | h3
 · subst h3;exact .inl rfl
 by_cases h0:n=0
 · subst h0;exact .inl rfl
 refine .inr ?_
 rw [bG,dG h1,oO,aF (by omega)]
 exact h3
theorem Hw {α:Type} [Cells α] {G:Imm} {a:Option Addr} {c sz:Nat} {l:List α} (h:Arr G a l) (n:Nat):Arr G (subA a c 0 sz) (l.take n):=by
 refine ⟨sV _,?_⟩
 rcases h.2 with h0 | ⟨b,o,rfl,hr⟩
 · left;rw [bG];omega
 refine .inr ⟨b,o,?_,fun i v hi=>hr i v ?_⟩
 · unfold subA
   split
   · rfl
   simp [Addr.add]
 have e:sY l=sY (l.take n)++sY (l.drop n):=by rw [←vD,fC]
 rw [e,bB (bZ.1 hi).1];exact hi
theorem Hx {la lb r:List U32} {i:Nat} {cy s:Int} (hi:i<r.length) (hv:sI (la.take i)+sI (lb.take i)=sI (r.take i)+pb i*cy) (hs:s=cy+lg la i+lg lb i) :
 sI (la.take (i+1))+sI (lb.take (i+1))=sI ((r.set i ⟨s % 4294967296⟩).take (i+1))+pb (i+1)*(s / 4294967296):=by
 rw [tX,tX,tX (r.set i _),Ge hi,mF (aH i),wY]
 have h:=Ut (pb i) s
 rw [hs,cF,cF] at h
 rw [←hs] at h
 omega
theorem Hz {la lb r:List U32} {i:Nat} {cy cy' s:Int} (hi:i<r.length) (hv:sI (la.take i) - sI (lb.take i)=sI (r.take i) - pb i*cy) (hs:s=lg la i - lg lb i - cy+4294967296*cy') :
 sI (la.take (i+1)) - sI (lb.take (i+1))=sI ((r.set i ⟨s⟩).take (i+1)) - pb (i+1)*cy':=by
 rw [tX,tX,tX (r.set i _),Ge hi,mF (aH i),wY]
 have h:pb i*s=pb i*lg la i - pb i*lg lb i - pb i*cy+4294967296*pb i*cy':=by
  rw [hs,cF,kO,kO,←cE,cD (pb i) 4294967296]
 omega
theorem RL {la lb r:List U32} {n:Nat} {cy:Int} (hn:n=la.length) (hb:lb.length≤la.length) (hle:sI lb≤sI la) (hri:r.length=n) (hd:Lims r) (hc:0≤cy∧cy≤1) (hv:sI (la.take n) - sI (lb.take n)=sI (r.take n) - pb n*cy):sI r=sI la - sI lb:=by
 rw [tO sE,tO sE,tO sE] at hv
 have h:=vW hd
 rw [hri] at h
 have hcy:cy=0:=by
  rcases (show cy=0∨cy=1 by omega) with h1 | h1
  · exact h1
  rw [h1,gH] at hv;omega
 rw [hcy,bL] at hv
 omega
theorem GZ {r lb:List U32} {i j:Nat} {c s x A:Int} (hk:i+j<r.length) (hv:sI r+pb (i+j)*c=A+pb i*(x*sI (lb.take j))) (hs:s=c+(x*lg lb j+lg r (i+j))) :
 sI (r.set (i+j) ⟨s % 4294967296⟩)+pb (i+(j+1))*(s / 4294967296)=A+pb i*(x*sI (lb.take (j+1))):=by
 rw [Bv r (i+j) ⟨s % 4294967296⟩ hk,tX,←nM,wY]
 have h1:=Ut (pb (i+j)) s
 have h2:pb (i+j)*s=pb (i+j)*c+(pb (i+j)*(x*lg lb j)+pb (i+j)*lg r (i+j)):=by rw [hs,cF,cF]
 have h3:pb i*(x*(sI (lb.take j)+pb j*lg lb j))=pb i*(x*sI (lb.take j))+pb (i+j)*(x*lg lb j):=by
  rw [cF,cF,CF]
  congr 1
  rw [cE,←cE x,cD x (pb j),cE]
 have h4:pb (i+j)*(s % 4294967296 - lg r (i+j))=pb (i+j)*(s % 4294967296) - pb (i+j)*lg r (i+j):=kO _ _ _
 show sI r+pb (i+j)*(s % 4294967296 - lg r (i+j))+4294967296*pb (i+j)*(s / 4294967296)=_
 rw [h3,h4]
 omega
theorem KX {la lb r:List U32} {i:Nat} {c:Int} (hk:i+lb.length<r.length) (hz:lg r (i+lb.length)=0) (hv:sI r+pb (i+lb.length)*c=sI (la.take i)*sI lb+pb i*(lg la i*sI (lb.take lb.length))) :
 sI (r.set (i+lb.length) ⟨c⟩)=sI (la.take (i+1))*sI lb:=by
 rw [Bv r _ _ hk,hz,tO (aH _)] at *
 show sI r+pb (i+lb.length)*(c - 0)=_
 rw [kV,hv,tX,jW,cE]
theorem Co {x y:Int} (hx:0≤x∧x<4294967296) (hy:0≤y∧y<4294967296):0≤x*y∧x*y≤18446744065119617025:=by
 refine ⟨kI hx.1 hy.1,?_⟩
 have h1:x*y≤4294967295*y:=hS sE hy.1
 omega
theorem Ya {la q:List U32} {i:Nat} {r B:Int} (hi:i<la.length) (hq:i<q.length) (hv:sI (la.drop (i+1))=sI (q.drop (i+1))*B+r) :
 sI (la.drop i)=sI ((q.set i ⟨(r*4294967296+lg la i) / B⟩).drop i)*B+(r*4294967296+lg la i) % B:=by
 rw [wM hi,wM (l:=q.set i _) (by rw [aG];exact hq),Ge hq,List.drop_set_of_lt sE,hv]
 have h:=jL (r*4294967296+lg la i) B
 rw [jW,cD ((r*4294967296+lg la i) / B) B,cE 4294967296,cF]
 omega
theorem HA {r a B:Int} (hr:0≤r∧r<B) (ha:0≤a∧a<4294967296):0≤(r*4294967296+a) / B∧(r*4294967296+a) / B<4294967296:=by
 refine ⟨nZ sE sE,nC sE ?_⟩
 have h1:=hS (show r+1≤B by omega) (show (0:Int)≤4294967296 by decide)
 rw [cD 4294967296 B]
 omega
theorem KY {lb:List U32} (h:lb.length=1):sI lb=lg lb 0:=by
 match lb,h with
 | [d],_=>rw [Dt];rfl
theorem KZ {x y:U32} (h:x.v=y.v):x=y:=by cases x;cases y;simp only at h;rw [h]
theorem Nw {la lb:List U32} {k:Nat} (hn:la.length=lb.length) (h:∀ j,k≤j→j<la.length→lg la j=lg lb j):la.drop k=lb.drop k:=by
 refine gF fun i=>?_
 rw [kT,kT]
 rcases aK (k+i) la.length with h1 | h1
 · have h2:=h (k+i) sE h1
   unfold lg at h2
   rw [aE] at h2
   rw [aA h1,aA sE] at h2 ⊢
   exact congrArg some (KZ h2)
 rw [bP h1,bP sE]
theorem Yb {la lb:List U32} {k:Nat} (hn:la.length=lb.length) (hk:k<la.length) (da:Lims la) (db:Lims lb) (h:∀ j,k+1≤j→j<la.length→lg la j=lg lb j) (hlt:lg la k<lg lb k):sI la<sI lb:=by
 have e:=Nw hn h
 have h1:=Ap la (show k+1≤la.length by omega)
 have h2:=Ap lb (show k+1≤lb.length by omega)
 rw [e] at h1
 rw [tX] at h1 h2
 have h3:=vW (da.take k)
 rw [bG,dG sE] at h3
 have h4:=tS (db.take k)
 have h5:=bU (show lg la k+1≤lg lb k by omega) (dW (xO k))
 rw [cF,gH] at h5
 omega
theorem LA {p Ul U3 Vl V2 g:Int} (hp:0<p) (hUl:Ul<p) (hVl:0≤Vl) (hg:0≤g) (h:U3<g*V2):Ul+p*U3<g*(Vl+p*V2):=by
 have h1:=bU (show U3+1≤g*V2 by omega) (dW hp)
 have h2:=kI hg hVl
 rw [cF,gH] at h1
 rw [cF,eO g p]
 omega
theorem RM {p Ul U3 Vl V2 g:Int} (hp:0<p) (hUl:0≤Ul) (hVl:0≤Vl∧Vl<p) (hg:0≤g∧g<4294967296) (hV2:4294967296≤V2) (h:g*V2≤U3):(g - 1)*(Vl+p*V2)≤Ul+p*U3:=by
 have h1:=bU h (dW hp)
 have h2:=bU (dW hVl.2) hg.1
 have h3:=hS (dW hg.2) (dW hp)
 have h4:=bU hV2 (dW hp)
 rw [kN,cY,cF,eO g p]
 rw [cD p 4294967296] at h4
 omega
theorem LB {g v1 v2 high rest u2:Int} (h:g*v1+rest=high):g*(v2+4294967296*v1) - (u2+4294967296*high)=g*v2 - (rest*4294967296+u2):=by
 rw [cF,eO g 4294967296,←h]
 omega
theorem LC {g v1 high rest:Int} (h:g*v1+rest=high) (hr:4294967296≤rest) (hv:0<v1) (hh:high<v1*4294967296+4294967296):g<4294967296:=by
 rcases pZ g 4294967296 with h1 | h1
 · exact h1
 have h2:=hS h1 (dW hv)
 omega
section
variable {u v:List U32} {m:Nat}
theorem RN (hu:u.length=m+3):sI u=sI (u.take m)+pb m*(lg u m+4294967296*(lg u (m+2)*4294967296+lg u (m+1))):=by
 have h0:=Ap u (show m≤u.length by omega)
 rw [wM (l:=u) (i:=m) sE,wM (l:=u) (i:=m+1) sE,wM (l:=u) (i:=m+1+1) sE,eU (show u.length≤m+1+1+1 by omega),tV] at h0
 rw [h0]
 congr 2
 show lg u m+4294967296*(lg u (m+1)+4294967296*(lg u (m+2)+4294967296*0))=_
 omega
theorem LD (hv:v.length=m+2):sI v=sI (v.take m)+pb m*(lg v m+4294967296*lg v (m+1)):=by
 have h0:=Ap v (show m≤v.length by omega)
 rw [wM (l:=v) (i:=m) sE,wM (l:=v) (i:=m+1) sE,eU (show v.length≤m+1+1 by omega),tV] at h0
 rw [h0]
 congr 2
 omega
theorem yE {l:List U32} (d:Lims l) (h:m≤l.length):0≤sI (l.take m)∧sI (l.take m)<pb m:=by
 have h1:=vW (d.take m)
 rw [bG,dG h] at h1
 exact ⟨tS (d.take m),h1⟩
variable (hu:u.length=m+3) (hv:v.length=m+2) (du:Lims u) (dv:Lims v)
include hu hv du dv
theorem LF {g rest high:Int} (hh:high=lg u (m+2)*4294967296+lg u (m+1)) (h1:0<lg v (m+1)) (hg:g=high / lg v (m+1)) (hr:rest=high % lg v (m+1)) :
 g*lg v (m+1)+rest=high∧0≤g∧0≤rest∧rest<lg v (m+1)∧sI u<(g+1)*sI v:=by
 have a1:=vG du (m+2)
 have a2:=vG du (m+1)
 have a3:=vG du m
 have a4:=vG dv m
 have hn:0≤high:=sE
 have e1:=jL high (lg v (m+1))
 have e2:=gA high h1
 have e3:=kY high (show lg v (m+1)≠0 by omega)
 have e4:=nZ hn (dW h1)
 rw [←hg,←hr] at e1
 rw [←hr] at e2 e3
 rw [←hg] at e4
 rw [cD] at e1
 refine ⟨by omega,e4,e3,e2,?_⟩
 rw [RN hu,LD hv,←hh]
 refine LA (xO m) (yE du sE).2 (yE dv sE).1 sE ?_
 have e5:(g+1)*lg v (m+1)=g*lg v (m+1)+lg v (m+1):=by rw [jW,cY]
 have e6:=kI (show 0≤g+1 by omega) a4.1
 rw [cF,eO (g+1) 4294967296,e5]
 omega
theorem WH {g rest high:Int} (hh:high=lg u (m+2)*4294967296+lg u (m+1)) (h:g*lg v (m+1)+rest=high) (hg:0≤g) (hc:rest*4294967296+lg u m<g*lg v m):sI u<g*sI v:=by
 have e:=LB (v2:=lg v m) (u2:=lg u m) h
 rw [RN hu,LD hv,←hh]
 exact LA (xO m) (yE du sE).2 (yE dv sE).1 hg sE
theorem LG {g rest high:Int} (hh:high=lg u (m+2)*4294967296+lg u (m+1)) (h:g*lg v (m+1)+rest=high) (hg:0≤g∧g<4294967296) (h1:1≤lg v (m+1)) (hc:g*lg v m≤rest*4294967296+lg u m):(g - 1)*sI v≤sI u:=by
 have e:=LB (v2:=lg v m) (u2:=lg u m) h
 have a4:=vG dv m
 rw [RN hu,LD hv,←hh]
 exact RM (xO m) (yE du sE).1 (yE dv sE) hg sE sE
end
theorem Aa {u v w:List U32} {i:Nat} {t c c' b b' s:Int} (hi:i<w.length) (hv:sI (u.take i) - t*sI (v.take i)=sI (w.take i) - pb i*(b+c)) (hc:c'=c+lg v i*t)
 (hs:s=lg u i - c' % 4294967296 - b+4294967296*b') :
 sI (u.take (i+1)) - t*sI (v.take (i+1))=sI ((w.set i ⟨s⟩).take (i+1)) - pb (i+1)*(b'+c' / 4294967296):=by
 rw [tX,tX,tX (w.set i _),Ge hi,mF (aH i),wY]
 have h1:=Ut (pb i) c'
 have h2:pb i*c'=pb i*c+t*(pb i*lg v i):=by rw [hc,cF,cD (lg v i) t,eO t]
 have h3:pb i*s=pb i*lg u i - pb i*(c' % 4294967296) - pb i*b+4294967296*pb i*b':=by
  rw [hs,cF,kO,kO,←cE,cD (pb i) 4294967296]
 rw [cF] at hv
 rw [cF t,cF (4294967296*pb i)]
 omega
theorem CJ {c x t:Int} (hc:0≤c∧c<4294967296) (hx:0≤x∧x<4294967296) (ht:0≤t∧t<4294967296):0≤c+x*t∧c+x*t<18446744073709551616∧0≤(c+x*t) / 4294967296∧(c+x*t) / 4294967296<4294967296∧0≤x*t∧x*t≤18446744065119617025:=by
 have h:=Co hx ht
 omega
theorem LH {u v w z:List U32} {n:Nat} {g c:Int} (hu:sI w=sI u - g*sI v+pb n) (hlow:(g - 1)*sI v≤sI u) (hup:sI u<g*sI v) (hw:w.length=n) (hz:z.length=n) (hvn:sI v<pb n) (hvl:v.length≤n) (dz:Lims z) (hc:0≤c∧c≤1)
 (hs:sI (w.take n)+sI (v.take n)=sI (z.take n)+pb n*c):sI z=sI u - (g - 1)*sI v:=by
 rw [tO sE,tO sE,tO sE] at hs
 have h1:=tS dz
 have h2:=vW dz
 rw [hz] at h2
 have e:(g - 1)*sI v=g*sI v - sI v:=by rw [kN,cY]
 have hc1:c=1:=by
  rcases (show c=0∨c=1 by omega) with h | h
  · rw [h,bL] at hs;omega
  exact h
 rw [hc1,gH] at hs
 omega
theorem RO (p w w' q:List U32) (h:w'.length=w.length):sI (p++(w'++q))=sI (p++(w++q))+pb p.length*(sI w' - sI w):=by
 rw [uH,uH,uH,uH,h,cF,cF,kO]
 omega
theorem LI {A V q g:Int} {R R':Int} {l:List U32} {k:Nat} (hk:k<l.length) (hz:lg l k=0) (hA:A=sI l*V+R) (hR:R'=R+pb k*(-(g*V))):A=sI (l.set k ⟨g⟩)*V+R':=by
 rw [Bv l k _ hk,hz,hA,hR,kV,jW,cE,iT]
 show _=sI l*V+pb k*(g*V)+(R + -(pb k*(g*V)))
 omega
section
variable {P:Program} {ops:Array Oper} {rest:List Oper} {B:Bs} {e:Env} {D:List Deferred} {H:Hp} {G:Imm} {K:Act→World→Prop}
 {ty:TypeId} {pos:String} {after:Array Edge} {d:Nat}
theorem RQ {p w q:List U32} {m:Int} (hm:0≤m∧m<w.length):(p++(w++q))[((p.length:Int)+m).toNat]?.getD default=w[m.toNat]?.getD default:=by
 have h1:((p.length:Int)+m).toNat=p.length+m.toNat:=sE
 rw [h1,bT sE,kG,bB sE]
theorem RR {p w q:List U32} {m:Int} (hm:0≤m∧m<w.length) (z:U32):(p++(w++q)).set ((p.length:Int)+m).toNat z=p++(w.set m.toNat z++q):=by
 have h1:((p.length:Int)+m).toNat=p.length+m.toNat:=sE
 rw [h1,qI _ _ sE,kG,List.set_append_left _ _ sE]
theorem EB {k:Nat} {m:Int} (hm:0≤m):k+m.toNat*1=0+((k:Int)+m).toNat*Cells.sz U32+0:=by
 show k+m.toNat*1=0+((k:Int)+m).toNat*1+0
 omega
theorem LJ {T:TypeId} {x:Operand} {b:Nat} {E:TypeId} {p w q:List U32} {junk:List Value} {m:Int} (t:Nat) (h1:wL P T=true) (hx:e.ev x=some (.pointer (some ⟨b,p.length+m.toNat*1,none⟩)))
 (ht:H.get t=some (some b,Row E (p++(w++q)) junk)) (hm:0≤m∧m<w.length):Qy P (.load T x) ty e H G (.int .u32 (w[m.toNat]?.getD default).v):=by
 rw [EB hm.1] at hx
 refine Xm (m:=(p.length:Int)+m) t 0 h1 hx ht ⟨by omega,by rw [aC,aC];omega⟩ rfl ?_
 rw [RQ hm];rfl
abbrev lN:=@LJ
theorem RT {T:TypeId} {x y:Operand} {b:Nat} {E:TypeId} {p w q:List U32} {junk:List Value} {m n:Int} (t:Nat) (hs:(P.info? T).map (·.size)=some 1)
 (hx:e.ev x=some (.pointer (some ⟨b,p.length+m.toNat*1,none⟩))) (hy:e.ev y=some (.int .u32 n)) (ht:H.get t=some (some b,Row E (p++(w++q)) junk)) (hm:0≤m∧m<w.length)
 (h:Wl P ops rest B ⟨e,D,(t,some b,Row E (p++(w.set m.toNat ⟨n⟩++q)) junk) :: H,G⟩ K):Wl P ops (⟨none,.store T x y,ty,pos,after,none⟩ :: rest) B ⟨e,D,H,G⟩ K:=by
 rw [EB hm.1] at hx
 refine DT (m:=(p.length:Int)+m) (z:=(⟨n⟩:U32)) t hs hx hy rfl ht ⟨by omega,by rw [aC,aC];omega⟩ ?_
 rw [RR hm];exact h
abbrev pQ:=@RT
theorem LK {T:TypeId} {x hi mx:Operand} {a:Option Addr} {n c E sz:Nat} {k k':IntKind} {m m':Int} (hT:sW P T E sz) (hx:e.ev x=some (.slice a n c)) (hh:e.ev hi=some (.int k m)) (hh':e.ev mx=some (.int k' m')) (h0:0≤m) (h1:m≤m') (h2:m'≤c) :
 Qy P (.slice T x none (some hi) (some mx)) ty e H G (.slice (subA a m'.toNat 0 sz) m.toNat m'.toNat):=fun ac w _ _ _ _ hk=>by
 have hr:=run_sizeOf (P:=P) w hT.2
 have hu:P.underlying T=some (.slice (P.elem T)):=by simp [Program.elem,hT.1]
 have he:P.elem T=E:=by simp [Program.elem,hT.1]
 have:=run_slice_hm (P:=P) (w:=w) T a n c hu k k' m m' h0 h1 h2
 simp only [execOp,hk.eval hx,fO,jO,hk.eval hh,hk.eval hh',dB,oZ (P:=P) (w:=w) T _ _ _ _ hu,this,he,hr,bM,dS,sliced,subA,mV]
end
section
variable {P:Program} {ops:Array Oper} {rest:List Oper} {B:Bs} {e:Env} {D:List Deferred} {H:Hp} {G:Imm} {K:Act→World→Prop}
 {ty:TypeId} {pos:String} {after:Array Edge} {d:Nat} {α:Type} [Cells α]
theorem Yc {w:World} (hw:HoldH H G w) {T T2 E:Nat} (hT:sW P T E (Cells.sz α)) {t b:Nat} {ad:Option Addr} {c c2:Nat} {xs ys:List α} {junk:List Value}
 (ht:H.get t=some (some b,Row E xs junk)) (hsrc:Src H G ad ys) (hle:ys.length≤xs.length) :
 ∃ w',(Builtin.copy_ #[T,T2] ty #[.slice (some ⟨b,0,none⟩) xs.length c,.slice ad ys.length c2]).run P w=.ok (.int .i64 (ys.length:Int)) w'∧Upd (·=b) w w'∧w'.heap[b]?=some (Row E (ys++xs.drop ys.length) junk):=by
 have hb:=hw.own t b _ ht
 have hmin:Nat.min ys.length xs.length=ys.length:=dG hle
 cases hq:P.info? E with
 | none=>have:=hT.2;simp [hq] at this
 | some i =>
   have hi:i.size=Cells.sz α:=by have:=hT.2;simpa [hq] using this
   rcases hsrc w hw with ⟨rfl,rfl⟩ | ⟨src,rfl,hsr⟩
   · refine ⟨w,?_,mI _ _,by simpa using hb⟩
     have hm0:Nat.min (0:Nat) xs.length=0:=Nat.zero_min _
     simp [Builtin.copy_,cW hT.1,Builtin.lenOf,Builtin.firstCells,sizeOf,typeInfo,hq,storeCells,hm0,goInt]
   have hl:=run_loadCells_list (P:=P) w src (sY ys) hsr
   have hfy:(sY ys).length=ys.length*Cells.sz α:=sV ys
   have hfx:(sY xs).length=xs.length*Cells.sz α:=sV xs
   have hmul:=gV (Cells.sz α) hle
   have hfit:0+0+(sY ys).length≤((sY xs++junk).toArray).size:=by
    rw [pB,aC];omega
   have hst:=run_storeCells_at P b 0 E (sY ys) 0 (sY xs++junk).toArray w hb hfit (fun v hv=>eJ.1 (Xl ys) v hv)
   refine ⟨_,?_,Ai w b (((sY xs++junk).toArray.toList.take (0+0)++sY ys++(sY xs++junk).toArray.toList.drop (0+0+(sY ys).length)).toArray),?_⟩
   · rw [hfy] at hl
     simp [Builtin.copy_,cW hT.1,Builtin.lenOf,Builtin.firstCells,sizeOf,typeInfo,hq,hi,hmin,hl,hst,goInt]
   rw [qL w b _ _ E _ hb]
   have hsplit:sY xs=sY (xs.take ys.length)++sY (xs.drop ys.length):=by rw [←vD,fC]
   have htl:(sY (xs.take ys.length)).length=(sY ys).length:=by rw [sV,sV,bG,dG hle]
   unfold Row
   rw [vD]
   simp only [jU,dC,cM,fW]
   rw [hsplit,bA,←htl,List.drop_left,bA]
theorem Gf {x y:Operand} {T T2 E b:Nat} {ad:Option Addr} {c c2:Nat} {xs ys:List α} {junk:List Value} (t:Nat) (hn:Nat.ble (d+1) B.n=true) (hT:sW P T E (Cells.sz α))
 (hx:e.ev x=some (.slice (some ⟨b,0,none⟩) xs.length c)) (hy:e.ev y=some (.slice ad ys.length c2)) (ht:H.get t=some (some b,Row E xs junk)) (hsrc:Src H G ad ys) (hle:ys.length≤xs.length)
 (h:Wl P ops rest B ⟨(d,.int .i64 (ys.length:Int)) :: e,D,(t,some b,Row E (ys++xs.drop ys.length) junk) :: H,G⟩ K) :
 Wl P ops (⟨some d,.call { callee:=.builtin .copy,args:=#[x,y],argTypes:=#[T,T2] },ty,pos,after,none⟩ :: rest) B ⟨e,D,H,G⟩ K:=by
 refine nF (v:=.int .i64 (ys.length:Int)) (x:=.value (.int .i64 (ys.length:Int))) ht (.inr ⟨rfl,d,rfl,hn⟩) (fun a w hh=>?_) h
 obtain ⟨w',hrun,hu,hb⟩:=Yc (c:=c) (c2:=c2) (T2:=T2) (ty:=ty) hh.mem hT ht hsrc hle
 refine ⟨w',?_,hu,hb⟩
 simp only [execOp,resolve,invoke,builtin,dB,dS,bM,rZ,iH,pY,hh.eval hx,hh.eval hy,hrun]
end
theorem LL {P:Program} {e:Env} {H:Hp} {G:Imm} {ty t t':TypeId} {x y:Operand} {m n:Int} (hx:e.ev x=some (.int .u64 m)) (hy:e.ev y=some (.int .u64 n)) (h0:m<n∧0≤m∧n≤18446744073709551615):Qy P (.binOp .sub t x y t') ty e H G (.int .u64 (m - n+18446744073709551616)):=by
 have h:=Hm (P:=P) (H:=H) (G:=G) (ty:=ty) (t:=t) (t':=t') hx hy
 have e1:IntKind.u64.wrap (m - n)=m - n+18446744073709551616:=by rw [nI];omega
 rw [e1] at h;exact h
abbrev qN:=@LL
theorem Nx {P:Program} {f:FuncId} {args:List Value} {G:Imm} {u:Value} (h:∀ w,Calls P f args.toArray w fun e w'=>e=.returned u∧w'=w):Does P f args G [] (fun v G' Ho=>v=u∧G'=G∧Ho=[]):=
 fun w hw=>(h w).mono fun e w' he=>by
  obtain ⟨rfl,rfl⟩:=he
  exact ⟨u,G,[],rfl,hw,bK G,mI _ _,fun b h1 h2=>absurd h2 h1,fun t b o ht=>by simp [Hp.get] at ht,rfl,rfl,rfl⟩
end Go.Sl
namespace Go.Proofs.YtfdcckcadfhpeaaGreatDoor
open Go Go.Sl
def tY (x y:Int):Int:=if x<y then -1 else if y<x then 1 else 0
theorem Ia {x y:Int} (h:x<y):tY x y=-1:=aF h
theorem Mm {x y:Int} (h:y<x):tY x y=1:=by unfold tY;rw [aD (by omega),aF h]
theorem Mn {x y:Int} (h:x=y):tY x y=0:=by unfold tY;rw [aD (by omega),aD (by omega)]
theorem Ny {x y u v:Int} (h1:x<y↔u<v) (h2:y<x↔v<u):tY x y=tY u v:=by unfold tY;simp only [h1,h2]
theorem wN {l m:List U32} (he:m=l.take m.length) (ht:Trim l m.length):sI m=sI l:=by rw [he];exact ht.val
theorem Dw {l m:List U32} (he:m=l.take m.length) (ht:Trim l m.length):Top m:=by rw [he];exact ht.top
theorem wF {l m:List U32} (he:m=l.take m.length) (hd:Lims l):Lims m:=by rw [he];exact hd.take _
section
attribute [local irreducible] sI pb tY
theorem Mf (G:Imm) (a:Option Addr) (c:Nat) (l:List U32) (hl:Arr G a l) (hb:l.length≤1099511627776) (hc:l.length≤c) :
 Does Tryz.prog 181 [.slice a l.length c] G [] (fun v G' Ho=>∃ (b:Option Addr) (m:List U32),v=.slice b m.length m.length∧Arr G b m∧m=l.take m.length∧Trim l m.length∧m.length≤l.length∧G'=G∧Ho=[]):=by
 refine D0 Tryz.func181 Tryz.ntmps181 fun w=>?_
 refine bJ 14 [] ?_
 refine gY (ι:=Nat) (fun n=>([(3,.int .i64 (n:Int)),(2,.slice none 0 0),(0,.slice a (List.length l) c)],[])) (fun n=>n≤l.length∧(∀ j,n≤j→j<l.length→(l[j]?.getD default).v=0)) (fun n=>n) (l.length) (⟨aH _,fun j h1 h2=>absurd h2 sE⟩) fun n=>fun hk=>?_
 obtain ⟨hn,hz⟩:=hk
 have done:(n=0∨(l[n - 1]?.getD default).v≠0)→∃ (b:Option Addr) (m:List U32),Value.slice (subA a n 0 1) n n=.slice b m.length m.length∧Arr G b m∧m=l.take m.length∧Trim l m.length∧m.length≤l.length∧G=G∧([]:Hp)=[]:=fun ht=>by
  have e:(l.take n).length=n:=by rw [bG,dG hn]
  refine ⟨subA a n 0 1,l.take n,by rw [e],Hw hl n,by rw [e],?_,by rw [e];exact hn,rfl,rfl⟩
  rw [e];exact ⟨hn,hz,ht⟩
 refine aJ 6 [] ?_
 apply bW 7 8 15 rfl
 intro hg1
 refine aB 7 [] ?_
 refine fP (α:=U32) T.sl123 ?_
 refine aB 1 [] ?_
 refine iY 0 T.one215 ?_
 refine aB 3 [] ?_
 exact dA 7 0
 intro hg1
 refine aB 7 [] ?_
 exact dA 7 0
 refine aZ 2 [] ?_
 refine cT (fun hc1=>?_) fun hc1=>?_
 refine bE 9 [] ?_
 rotate_left
 refine aJ 10 [] ?_
 refine aO (LK T.sl123 rfl rfl rfl sE sE sE) ?_
 refine aR 4 [] ?_
 refine cP ?_
 rotate_left
 · refine cN 3 rfl (show _=Value.int .i64 ((n - 1:Nat):Int) by congr 1;omega) ?_
   refine cL (n - 1) ?_ ?_
   · refine ⟨by omega,fun j h1 h2=>?_⟩
     rcases aK j n with h3 | h3
     · have e:j=((n:Int) - 1).toNat:=sE
       rw [e];exact hc1.2
     exact hz j h3 h2
   omega
 refine done ?_
 rcases fZ n with h | h
 · exact .inl h
 refine .inr fun h2=>hc1 ⟨by omega,?_⟩
 have e:((n:Int) - 1).toNat=n - 1:=sE
 rw [e];exact h2
theorem Yd (G:Imm) (a b:Option Addr) (ca cb:Nat) (la lb:List U32) (ha:Arr G a la) (hb:Arr G b lb) (da:Lims la) (db:Lims lb) (h1:la.length≤1073741824) (h2:lb.length≤1073741824) (h3:la.length≤ca) (h4:lb.length≤cb) :
 Does Tryz.prog 182 [.slice a la.length ca,.slice b lb.length cb] G [] (fun v G' Ho=>v=.int .i64 (tY (sI la) (sI lb))∧G'=G∧Ho=[]):=by
 refine D0 Tryz.func182 Tryz.ntmps182 fun w=>?_
 refine aJ 8 [] ?_
 refine bX 0 rfl (Mf _ _ _ _ sF sE tJ) fun v1 G1 Ho1 hle1 hp=>?_
 obtain ⟨ta1,tm1,rfl,hta1,hte1,htr1,htl1,rfl,rfl⟩:=hp
 refine aB 1 [] ?_
 refine bX 0 rfl (Mf _ _ _ _ sF sE tJ) fun v2 G2 Ho2 hle2 hp=>?_
 obtain ⟨ta2,tm2,rfl,hta2,hte2,htr2,htl2,rfl,rfl⟩:=hp
 refine aZ 16 [] ?_
 refine cT (fun hc1=>?_) fun hc1=>?_
 refine bE 8 [] ?_
 refine cP ?_
 rotate_left
 refine bJ 10 [] ?_
 refine cT (fun hc2=>?_) fun hc2=>?_
 refine bE 8 [] ?_
 refine cP ?_
 rotate_left
 refine bJ 13 [] ?_
 rotate_left
 · rw [←wN hte1 htr1,←wN hte2 htr2]
   exact ⟨by rw [Ia (zA (wF hte1 da) (wF hte2 db) (Dw hte2 htr2) sE)],rfl,rfl⟩
 · rw [←wN hte1 htr1,←wN hte2 htr2]
   exact ⟨by rw [Mm (zA (wF hte2 db) (wF hte1 da) (Dw hte1 htr1) sE)],rfl,rfl⟩
 rw [←wN hte1 htr1,←wN hte2 htr2]
 have dma:=wF hte1 da
 have dmb:=wF hte2 db
 have l1:=htr1.1
 have l2:=htr2.1
 have hn:tm1.length=tm2.length:=sE
 refine gY (ι:=Nat) (fun k=>([(5,.int .i64 ((k:Int) - 1)),(1,.slice ta2 (List.length tm2) (List.length tm2)),(0,.slice ta1 (List.length tm1) (List.length tm1))],[])) (fun k=>k≤tm1.length∧∀ j,k≤j→j<tm1.length→lg tm1 j=lg tm2 j) (fun k=>k) (tm1.length) (⟨aH _,fun j h1 h2=>absurd h2 sE⟩) fun k=>fun hk=>?_
 obtain ⟨hk1,hz⟩:=hk
 rcases fZ k with rfl | hpos
 · refine bE 19 [0] ?_
   refine cP ?_
   have e:tm1=tm2:=by
    have:=Nw (k:=0) hn hz
    simpa using this
   exact ⟨by rw [e,Mn rfl],rfl,rfl⟩
 have e1:(tm1[((k:Int) - 1).toNat]?.getD default).v=lg tm1 (k - 1):=by
  unfold lg;rw [show (((k:Nat):Int) - 1).toNat=((k - 1:Nat):Int).toNat by omega]
 have e2:(tm2[((k:Int) - 1).toNat]?.getD default).v=lg tm2 (k - 1):=by
  unfold lg;rw [show (((k:Nat):Int) - 1).toNat=((k - 1:Nat):Int).toNat by omega]
 have hz':∀ j,(k - 1)+1≤j→j<tm1.length→lg tm1 j=lg tm2 j:=fun j h1 h2=>hz j sE h2
 refine bJ 14 [1] ?_
 refine cX [] [] T.mixed [[0],[1]] ?_
 refine mQ (α:=U32) 2 T.sl123 ?_
 refine qU 3 [] 0 T.one215 ?_
 refine dE [[4],[5]] ?_
 refine mQ (α:=U32) 6 T.sl123 ?_
 refine qU 7 [] 0 T.one215 ?_
 refine dE [[8],[9]] ?_
 refine cZ ?_
 refine cO ?_
 refine cT (fun hc3=>?_) fun hc3=>?_
 refine bE 12 [] ?_
 refine cP ?_
 rotate_left
 refine dF ?_
 refine cX [] [] T.mixed [[0],[1]] ?_
 refine mQ (α:=U32) 2 T.sl123 ?_
 refine qU 3 [] 0 T.one215 ?_
 refine dE [[4],[5]] ?_
 refine mQ (α:=U32) 6 T.sl123 ?_
 refine qU 7 [] 0 T.one215 ?_
 refine dE [[8],[9]] ?_
 refine cZ ?_
 refine cO ?_
 refine cT (fun hc4=>?_) fun hc4=>?_
 refine bE 12 [] ?_
 refine cP ?_
 rotate_left
 refine bE 9 [] ?_
 rotate_left
 · exact ⟨by rw [Ia (Yb hn sE dma dmb hz' sE)],rfl,rfl⟩
 · exact ⟨by rw [Mm (Yb hn.symm sE dmb dma (fun j h1 h2=>(hz' j h1 sE).symm) sE)],rfl,rfl⟩
 refine cN 5 rfl (show _=Value.int .i64 (((k - 1:Nat):Int) - 1) by congr 1;omega) ?_
 refine cL (k - 1) ?_ ?_
 · refine ⟨by omega,fun j h1 h2=>?_⟩
   rcases aK j k with h3 | h3
   · have e:j=k - 1:=sE
     rw [e];omega
   exact hz j h3 h2
 omega
theorem WI (G:Imm) (a:Option Addr) (c:Nat) (l:List U32) (hl:Arr G a l) (hb:l.length≤1073741824) (hc:l.length≤c) :
 Does Tryz.prog 185 [.slice a l.length c] G [] (fun v G' Ho=>∃ (b:Option Addr) (m:List U32),v=.slice b m.length m.length∧Arr G' b m∧m=l.take m.length∧Trim l m.length∧m.length≤l.length∧Ho=[]):=by
 refine D0 Tryz.func185 Tryz.ntmps185 fun w=>?_
 refine aJ 8 [] ?_
 refine bX 0 rfl (Mf _ _ _ _ sF sE tJ) fun v1 G1 Ho1 hle1 hp=>?_
 obtain ⟨ta1,tm1,rfl,hta1,hte1,htr1,htl1,rfl,rfl⟩:=hp
 refine aL 7 [] ?_
 refine fV (α:=U32) 0 rfl T.sl123 T.el215 rfl rfl sE sE fun b1=>?_
 refine aL 7 [] ?_
 refine Gf (α:=U32) 0 rfl T.sl123 rfl rfl rfl (lC sF) UY ?_
 refine aR 9 [] ?_
 have e1:(List.replicate ((tm1.length:Nat):Int).toNat (default:U32)).length=tm1.length:=by rw [aI,aE]
 refine fY 0 (Row 215 tm1 []) rfl (by rw [eU (by rw [e1];exact aH _),bR]) ?_
 refine cN 2 rfl (show _=Value.slice (some ⟨b1,0,none⟩) tm1.length tm1.length by rw [e1]) ?_
 refine cQ 0 rfl (fM (xs:=tm1) Nc) fun G9 hle9 hA=>?_
 refine cP ?_
 exact ⟨_,tm1,rfl,hA,hte1,htr1,htl1,rfl⟩
end
def Nat32 (G:Imm) (v:Value) (z:Int) (n:Nat):Prop:=∃ (b:Option Addr) (m:List U32),v=.slice b m.length m.length∧Arr G b m∧Lims m∧Top m∧sI m=z∧m.length≤n
theorem Nat32.of {G:Imm} {b:Option Addr} {l m:List U32} {z:Int} {n:Nat} (h:Arr G b m) (he:m=l.take m.length) (ht:Trim l m.length) (hd:Lims l) (hz:sI l=z) (hn:m.length≤n):Nat32 G (.slice b m.length m.length) z n:=
 ⟨b,m,rfl,h,wF he hd,Dw he ht,(wN he ht).trans hz,hn⟩
abbrev nP:=@Nat32.of
section
attribute [local irreducible] sI pb tY
theorem cz (G:Imm) (a b:Option Addr) (ca cb:Nat) (la lb:List U32) (ha:Arr G a la) (hb:Arr G b lb) (da:Lims la) (db:Lims lb) (h1:la.length≤1073741824) (h2:lb.length≤1073741824) :
 Does Tryz.prog 183 [.slice a la.length ca,.slice b lb.length cb] G [] (fun v G' Ho=>Nat32 G' v (sI la+sI lb) (max la.length lb.length+1)∧Ho=[]):=by
 refine D0 Tryz.func183 Tryz.ntmps183 fun w=>?_
 refine bJ 5 [] ?_
 refine oH (ι:=Option Addr×Nat×List U32×(Option Addr×Nat×List U32)) (fun (xa,ka,l1,(xb,kb,l2))=>([(0,.slice xa l1.length ka),(1,.slice xb l2.length kb),(4,.slice none 0 0)],[])) (fun (xa,ka,l1,(xb,kb,l2))=>Arr G xa l1∧Arr G xb l2∧Lims l1∧Lims l2∧l2.length≤l1.length∧l1.length≤max la.length lb.length∧sI l1+sI l2=sI la+sI lb) ?_ fun ⟨xa,ka,l1,(xb,kb,l2)⟩=>fun (hk:Arr G xa l1∧Arr G xb l2∧Lims l1∧Lims l2∧l2.length≤l1.length∧l1.length≤max la.length lb.length∧sI l1+sI l2=sI la+sI lb)=>?_
 · by_cases hlt:la.length<lb.length
   · refine bE 16 [1] ?_
     refine mC ((b,cb,lb,(a,ca,la))) ?_
     exact ⟨hb,ha,db,da,by omega,by omega,rQ _ _⟩
   refine bE 11 [0] ?_
   refine mC ((a,ca,la,(b,cb,lb))) ?_
   exact ⟨ha,hb,da,db,by omega,by omega,rfl⟩
 obtain ⟨ha1,hb1,d1,d2,hl21,hl1,hsum⟩:=hk
 clear ha hb
 refine aJ 5 [] ?_
 refine fV (α:=U32) 0 rfl T.sl123 T.el215 rfl rfl sE sE fun b1=>?_
 refine aZ 17 [] ?_
 obtain ⟨N,hN⟩:∃ N,N=l1.length+1:=⟨_,rfl⟩
 have hM:((l1.length:Int)+1).toNat=N:=sE
 rw [hM]
 have hown:∀ r:List U32,r.length=N→OwnA (some ⟨b1,0,none⟩) N r []:=fun r hr=>.inr ⟨b1,rfl,by rw [hr];rfl,by omega,by simp only [maxLen];omega⟩
 refine iI 5 rfl (show _=Value.slice (some ⟨b1,0,none⟩) (List.replicate N (default:U32)).length N by rw [aI]) ?_
 refine gY (ι:=Nat×Int×List U32) (fun (i,cy,r)=>([(22,.int .i64 (i:Int)),(6,.int .u64 cy),(5,.slice (some ⟨b1,0,none⟩) r.length N),(21,.int .i64 (l1.length:Int)),(20,.slice xa (List.length l1) ka),(0,.slice xa (List.length l1) ka),(1,.slice xb (List.length l2) kb),(4,.slice none 0 0)],[(0,some b1,Row 215 r [])])) (fun (i,cy,r)=>i≤l1.length∧r.length=N∧Lims r∧0≤cy∧cy≤1∧sI (l1.take i)+sI (l2.take i)=sI (r.take i)+pb i*cy) (fun (i,cy,r)=>l1.length - i) ((0,0,List.replicate N (default:U32))) (⟨aM _,aI,nH N,by decide,by decide,by rw [cM,cM,cM,bL,eV,tV];rfl⟩) fun ⟨i,cy,r⟩=>fun hk=>?_
 obtain ⟨hi,hrN,hdr,hc0,hc1,hv⟩:=hk
 have hor:=hown r hrN
 rcases aK i l1.length with hia | hia
 · have r1:0≤(l1[(i:Int).toNat]?.getD default).v∧(l1[(i:Int).toNat]?.getD default).v<4294967296:=Bf d1 hia
   rcases aK i l2.length with hib | hib
   · have r2:0≤(l2[(i:Int).toNat]?.getD default).v∧(l2[(i:Int).toNat]?.getD default).v<4294967296:=Bf d2 hib
     refine aJ 14 [1] ?_
     refine fP (α:=U32) T.sl123 ?_
     refine iY 0 T.one215 ?_
     refine aL 8 [] ?_
     refine aO (dI rfl T.u214 rfl sE) ?_
     refine aO (jC rfl rfl sE) ?_
     refine aL 17 [1] ?_
     refine fP (α:=U32) T.sl123 ?_
     refine iY 0 T.one215 ?_
     refine aO (dI rfl T.u214 rfl sE) ?_
     refine aO (jC rfl rfl sE) ?_
     refine aL 8 [] ?_
     refine aO (iJ rfl T.u215 rfl) ?_
     refine gX (α:=U32) T.sl123 ?_
     refine cU (z:=_) 0 T.size215 rfl rfl rfl sF sE rfl fun ho1=>?_
     refine aL 4 [] ?_
     refine aO (gD rfl rfl sE) ?_
     refine aR 8 [] ?_
     refine fY 0 (Row 215 (r.set i (⟨(cy+(l1[(i:Int).toNat]?.getD default).v+(l2[(i:Int).toNat]?.getD default).v) % 4294967296⟩:U32)) []) rfl Xa ?_
     refine cN 5 rfl (show _=Value.slice (some ⟨b1,0,none⟩) (r.set i (⟨(cy+(l1[(i:Int).toNat]?.getD default).v+(l2[(i:Int).toNat]?.getD default).v) % 4294967296⟩:U32)).length N by rw [aG]) ?_
     refine cL ((i+1,(cy+(l1[(i:Int).toNat]?.getD default).v+(l2[(i:Int).toNat]?.getD default).v) / 4294967296,r.set i (⟨(cy+(l1[(i:Int).toNat]?.getD default).v+(l2[(i:Int).toNat]?.getD default).v) % 4294967296⟩:U32))) ?_ ?_
     · exact ⟨by omega,by rw [aG];exact hrN,tT hdr _ (Fp _),by omega,by omega,Hx sE hv rfl⟩
     show l1.length - (i+1)<l1.length - i
     omega
   have z:=Dv hib
   refine aJ 14 [1] ?_
   refine fP (α:=U32) T.sl123 ?_
   refine iY 0 T.one215 ?_
   refine aL 8 [] ?_
   refine aO (dI rfl T.u214 rfl sE) ?_
   refine aO (jC rfl rfl sE) ?_
   refine aL 20 [0] ?_
   refine aO (iJ rfl T.u215 rfl) ?_
   refine gX (α:=U32) T.sl123 ?_
   refine cU (z:=_) 0 T.size215 rfl rfl rfl sF sE rfl fun ho1=>?_
   refine aL 4 [] ?_
   refine aO (gD rfl rfl sE) ?_
   refine aR 8 [] ?_
   refine fY 0 (Row 215 (r.set i (⟨(cy+(l1[(i:Int).toNat]?.getD default).v) % 4294967296⟩:U32)) []) rfl Xa ?_
   refine cN 5 rfl (show _=Value.slice (some ⟨b1,0,none⟩) (r.set i (⟨(cy+(l1[(i:Int).toNat]?.getD default).v) % 4294967296⟩:U32)).length N by rw [aG]) ?_
   refine cL ((i+1,(cy+(l1[(i:Int).toNat]?.getD default).v) / 4294967296,r.set i (⟨(cy+(l1[(i:Int).toNat]?.getD default).v) % 4294967296⟩:U32))) ?_ ?_
   · exact ⟨by omega,by rw [aG];exact hrN,tT hdr _ (Fp _),by omega,by omega,Hx sE hv (by rw [z,eV];rfl)⟩
   show l1.length - (i+1)<l1.length - i
   omega
 have hii:i=l1.length:=sE
 subst hii
 refine aJ 18 [0] ?_
 refine aO (kF rfl T.u215 rfl sE) ?_
 refine gX (α:=U32) T.sl123 ?_
 refine cU (z:=_) 0 T.size215 rfl rfl rfl sF sE rfl fun ho1=>?_
 refine aL 5 [] ?_
 have hd2:=tT hdr l1.length (s:=cy) sE
 have hlen:(r.set l1.length (⟨cy⟩:U32)).length=N:=by rw [aG];exact hrN
 have hval:sI (r.set l1.length (⟨cy⟩:U32))=sI la+sI lb:=by
  rw [tO (aH _),tO hl21] at hv
  rw [←hsum,hv]
  have h3:=tX (r.set l1.length (⟨cy⟩:U32)) l1.length
  rw [tO sE,mF (aH _),Ge sE] at h3
  exact h3
 refine nU 0 (Row 215 (r.set l1.length (⟨cy⟩:U32)) []) rfl Xa ?_
 refine gK 56 rfl (show _=Value.slice (some ⟨b1,0,none⟩) (r.set l1.length (⟨cy⟩:U32)).length N by rw [aG]) ?_
 refine gB 0 rfl (hown _ hlen) fun G9 hle9 hA=>?_
 refine bX 1 rfl (Mf _ _ _ _ sF sE tJ) fun v1 G1 Ho1 hle1 hp=>?_
 obtain ⟨ta1,tm1,rfl,hta1,hte1,htr1,htl1,rfl,rfl⟩:=hp
 refine aR 4 [] ?_
 refine cP ?_
 exact ⟨nP hta1 hte1 htr1 hd2 hval sE,rfl⟩
end
section
attribute [local irreducible] sI pb tY
theorem YU (G:Imm) (a b:Option Addr) (ca cb:Nat) (la lb:List U32) (ha:Arr G a la) (hb:Arr G b lb) (da:Lims la) (db:Lims lb) (h1:la.length≤1073741824) (h2:lb.length≤la.length) (h3:la.length≤ca) (h4:lb.length≤cb) (hle:sI lb≤sI la) :
 Does Tryz.prog 184 [.slice a la.length ca,.slice b lb.length cb] G [] (fun v G' Ho=>∃ r,v=.tuple #[r,.int .i64 0]∧Nat32 G' r (sI la - sI lb) la.length∧Ho=[]):=by
 have hcmp:0≤tY (sI la) (sI lb):=by
  rcases Int.lt_or_eq_of_le hle with h | h
  · rw [Mm h];decide
  rw [Mn h.symm];decide
 refine D0 Tryz.func184 Tryz.ntmps184 fun w=>?_
 refine aJ 11 [] ?_
 refine cI rfl (Yd _ _ _ _ _ _ _ sF sF sF sF sE sE sE sE) ?_
 refine aL 10 [0] ?_
 refine fV (α:=U32) 0 rfl T.sl123 T.el215 rfl rfl sE sE fun b1=>?_
 refine aZ 17 [] ?_
 obtain ⟨N,hN⟩:∃ N,N=la.length:=⟨_,rfl⟩
 have hM:(la.length:Int).toNat=N:=sE
 rw [hM]
 have hown:∀ r:List U32,r.length=N→OwnA (some ⟨b1,0,none⟩) N r []:=fun r hr=>.inr ⟨b1,rfl,by rw [hr];rfl,by omega,by simp only [maxLen];omega⟩
 refine iI 6 rfl (show _=Value.slice (some ⟨b1,0,none⟩) (List.replicate N (default:U32)).length N by rw [aI]) ?_
 refine gY (ι:=Nat×Int×List U32) (fun (i,cy,r)=>([(21,.int .i64 (i:Int)),(7,.int .u64 cy),(6,.slice (some ⟨b1,0,none⟩) r.length N),(20,.int .i64 (la.length:Int)),(19,.slice a (List.length la) ca),(5,.int .i64 0),(4,.slice none 0 0),(1,.slice b (List.length lb) cb)],[(0,some b1,Row 215 r [])])) (fun (i,cy,r)=>i≤la.length∧r.length=N∧Lims r∧0≤cy∧cy≤1∧sI (la.take i) - sI (lb.take i)=sI (r.take i) - pb i*cy) (fun (i,cy,r)=>la.length - i) ((0,0,List.replicate N (default:U32))) (⟨aM _,aI,nH N,by decide,by decide,by rw [cM,cM,cM,bL,kV,tV];rfl⟩) fun ⟨i,cy,r⟩=>fun hk=>?_
 obtain ⟨hi,hrN,hdr,hc0,hc1,hv⟩:=hk
 have hor:=hown r hrN
 rcases aK i la.length with hia | hia
 · have r1:0≤(la[(i:Int).toNat]?.getD default).v∧(la[(i:Int).toNat]?.getD default).v<4294967296:=Bf da hia
   have e1:(la[(i:Int).toNat]?.getD default).v=lg la i:=rfl
   rcases aK i lb.length with hib | hib
   · have r2:0≤(lb[(i:Int).toNat]?.getD default).v∧(lb[(i:Int).toNat]?.getD default).v<4294967296:=Bf db hib
     have e2:(lb[(i:Int).toNat]?.getD default).v=lg lb i:=rfl
     by_cases hlt:(la[((i:Nat):Int).toNat]?.getD default).v<cy+(lb[((i:Nat):Int).toNat]?.getD default).v
     · refine aJ 14 [1] ?_
       refine fP (α:=U32) T.sl123 ?_
       refine iY 0 T.one215 ?_
       refine aL 24 [1] ?_
       refine fP (α:=U32) T.sl123 ?_
       refine iY 0 T.one215 ?_
       refine aO (dI rfl T.u214 rfl sE) ?_
       refine aO (jC rfl rfl sE) ?_
       refine aL 6 [] ?_
       refine aO (dI rfl T.u214 rfl sE) ?_
       refine aB 1 [] ?_
       refine aO (qN rfl rfl sE) ?_
       refine aL 8 [] ?_
       refine aO (iJ rfl T.u215 rfl) ?_
       refine gX (α:=U32) T.sl123 ?_
       refine cU (z:=_) 0 T.size215 rfl rfl rfl sF sE rfl fun ho1=>?_
       refine aL 4 [] ?_
       refine aO (gD rfl rfl sE) ?_
       refine aO (oJ rfl rfl sE) ?_
       refine aR 8 [] ?_
       have es:((la[(i:Int).toNat]?.getD default).v - (cy+(lb[(i:Int).toNat]?.getD default).v)+18446744073709551616) % 4294967296=((la[(i:Int).toNat]?.getD default).v - (cy+(lb[(i:Int).toNat]?.getD default).v)+4294967296):=sE
       have ec:((la[(i:Int).toNat]?.getD default).v - (cy+(lb[(i:Int).toNat]?.getD default).v)+18446744073709551616) / 4294967296 % 2=1:=sE
       refine cN 7 rfl (show _=Value.int .u64 1 by rw [ec]) ?_
       refine fY 0 (Row 215 (r.set i (⟨((la[(i:Int).toNat]?.getD default).v - (cy+(lb[(i:Int).toNat]?.getD default).v)+4294967296)⟩:U32)) []) rfl DL ?_
       refine cN 6 rfl (show _=Value.slice (some ⟨b1,0,none⟩) (r.set i (⟨((la[(i:Int).toNat]?.getD default).v - (cy+(lb[(i:Int).toNat]?.getD default).v)+4294967296)⟩:U32)).length N by rw [aG]) ?_
       refine cL ((i+1,1,r.set i (⟨((la[(i:Int).toNat]?.getD default).v - (cy+(lb[(i:Int).toNat]?.getD default).v)+4294967296)⟩:U32))) ?_ ?_
       · exact ⟨by omega,by rw [aG];exact hrN,tT hdr _ sE,by decide,by decide,Hz (cy':=1) sE hv (by rw [←e1,←e2];omega)⟩
       show la.length - (i+1)<la.length - i
       omega
     refine aJ 14 [1] ?_
     refine fP (α:=U32) T.sl123 ?_
     refine iY 0 T.one215 ?_
     refine aL 24 [1] ?_
     refine fP (α:=U32) T.sl123 ?_
     refine iY 0 T.one215 ?_
     refine aO (dI rfl T.u214 rfl sE) ?_
     refine aO (jC rfl rfl sE) ?_
     refine aL 6 [] ?_
     refine aO (dI rfl T.u214 rfl sE) ?_
     refine aB 1 [] ?_
     refine aO (jM rfl rfl sE) ?_
     refine aL 8 [] ?_
     refine aO (kF rfl T.u215 rfl sE) ?_
     refine gX (α:=U32) T.sl123 ?_
     refine cU (z:=_) 0 T.size215 rfl rfl rfl sF sE rfl fun ho1=>?_
     refine aL 4 [] ?_
     refine aO (gD rfl rfl sE) ?_
     refine aO (oJ rfl rfl sE) ?_
     refine aR 8 [] ?_
     have es:((la[(i:Int).toNat]?.getD default).v - (cy+(lb[(i:Int).toNat]?.getD default).v))=((la[(i:Int).toNat]?.getD default).v - (cy+(lb[(i:Int).toNat]?.getD default).v)):=sE
     have ec:((la[(i:Int).toNat]?.getD default).v - (cy+(lb[(i:Int).toNat]?.getD default).v)) / 4294967296 % 2=0:=sE
     refine cN 7 rfl (show _=Value.int .u64 0 by rw [ec]) ?_
     refine fY 0 (Row 215 (r.set i (⟨((la[(i:Int).toNat]?.getD default).v - (cy+(lb[(i:Int).toNat]?.getD default).v))⟩:U32)) []) rfl DL ?_
     refine cN 6 rfl (show _=Value.slice (some ⟨b1,0,none⟩) (r.set i (⟨((la[(i:Int).toNat]?.getD default).v - (cy+(lb[(i:Int).toNat]?.getD default).v))⟩:U32)).length N by rw [aG]) ?_
     refine cL ((i+1,0,r.set i (⟨((la[(i:Int).toNat]?.getD default).v - (cy+(lb[(i:Int).toNat]?.getD default).v))⟩:U32))) ?_ ?_
     · exact ⟨by omega,by rw [aG];exact hrN,tT hdr _ sE,by decide,by decide,Hz (cy':=0) sE hv (by rw [←e1,←e2];omega)⟩
     show la.length - (i+1)<la.length - i
     omega
   have z:=Dv hib
   by_cases hlt:(la[((i:Nat):Int).toNat]?.getD default).v<cy
   · refine aJ 14 [1] ?_
     refine fP (α:=U32) T.sl123 ?_
     refine iY 0 T.one215 ?_
     refine aL 25 [0] ?_
     refine aO (dI rfl T.u214 rfl sE) ?_
     refine aB 1 [] ?_
     refine aO (qN rfl rfl sE) ?_
     refine aL 8 [] ?_
     refine aO (iJ rfl T.u215 rfl) ?_
     refine gX (α:=U32) T.sl123 ?_
     refine cU (z:=_) 0 T.size215 rfl rfl rfl sF sE rfl fun ho1=>?_
     refine aL 4 [] ?_
     refine aO (gD rfl rfl sE) ?_
     refine aO (oJ rfl rfl sE) ?_
     refine aR 8 [] ?_
     have es:((la[(i:Int).toNat]?.getD default).v - (cy)+18446744073709551616) % 4294967296=((la[(i:Int).toNat]?.getD default).v - (cy)+4294967296):=sE
     have ec:((la[(i:Int).toNat]?.getD default).v - (cy)+18446744073709551616) / 4294967296 % 2=1:=sE
     refine cN 7 rfl (show _=Value.int .u64 1 by rw [ec]) ?_
     refine fY 0 (Row 215 (r.set i (⟨((la[(i:Int).toNat]?.getD default).v - (cy)+4294967296)⟩:U32)) []) rfl DL ?_
     refine cN 6 rfl (show _=Value.slice (some ⟨b1,0,none⟩) (r.set i (⟨((la[(i:Int).toNat]?.getD default).v - (cy)+4294967296)⟩:U32)).length N by rw [aG]) ?_
     refine cL ((i+1,1,r.set i (⟨((la[(i:Int).toNat]?.getD default).v - (cy)+4294967296)⟩:U32))) ?_ ?_
     · exact ⟨by omega,by rw [aG];exact hrN,tT hdr _ sE,by decide,by decide,Hz (cy':=1) sE hv (by rw [←e1,z];omega)⟩
     show la.length - (i+1)<la.length - i
     omega
   refine aJ 14 [1] ?_
   refine fP (α:=U32) T.sl123 ?_
   refine iY 0 T.one215 ?_
   refine aL 25 [0] ?_
   refine aO (dI rfl T.u214 rfl sE) ?_
   refine aB 1 [] ?_
   refine aO (jM rfl rfl sE) ?_
   refine aL 8 [] ?_
   refine aO (kF rfl T.u215 rfl sE) ?_
   refine gX (α:=U32) T.sl123 ?_
   refine cU (z:=_) 0 T.size215 rfl rfl rfl sF sE rfl fun ho1=>?_
   refine aL 4 [] ?_
   refine aO (gD rfl rfl sE) ?_
   refine aO (oJ rfl rfl sE) ?_
   refine aR 8 [] ?_
   have es:((la[(i:Int).toNat]?.getD default).v - (cy))=((la[(i:Int).toNat]?.getD default).v - (cy)):=sE
   have ec:((la[(i:Int).toNat]?.getD default).v - (cy)) / 4294967296 % 2=0:=sE
   refine cN 7 rfl (show _=Value.int .u64 0 by rw [ec]) ?_
   refine fY 0 (Row 215 (r.set i (⟨((la[(i:Int).toNat]?.getD default).v - (cy))⟩:U32)) []) rfl DL ?_
   refine cN 6 rfl (show _=Value.slice (some ⟨b1,0,none⟩) (r.set i (⟨((la[(i:Int).toNat]?.getD default).v - (cy))⟩:U32)).length N by rw [aG]) ?_
   refine cL ((i+1,0,r.set i (⟨((la[(i:Int).toNat]?.getD default).v - (cy))⟩:U32))) ?_ ?_
   · exact ⟨by omega,by rw [aG];exact hrN,tT hdr _ sE,by decide,by decide,Hz (cy':=0) sE hv (by rw [←e1,z];omega)⟩
   show la.length - (i+1)<la.length - i
   omega
 have hii:i=la.length:=sE
 subst hii
 refine aJ 15 [0] ?_
 refine gB 0 rfl hor fun G9 hle9 hA=>?_
 refine bX 1 rfl (Mf _ _ _ _ sF sE tJ) fun v1 G1 Ho1 hle1 hp=>?_
 obtain ⟨ta1,tm1,rfl,hta1,hte1,htr1,htl1,rfl,rfl⟩:=hp
 refine aR 5 [] ?_
 refine gR ?_
 exact ⟨_,rfl,nP hta1 hte1 htr1 hdr (RL rfl h2 hle sE hdr ⟨hc0,hc1⟩ hv) sE,rfl⟩
end
theorem Ib (n k:Nat):lg (List.replicate n (default:U32)) k=0:=by
 unfold lg
 rw [aE,eL]
 split <;> rfl
section
attribute [local irreducible] sI pb tY
theorem de (G:Imm) (a b:Option Addr) (ca cb:Nat) (la lb:List U32) (ha:Arr G a la) (hb:Arr G b lb) (da:Lims la) (db:Lims lb) (h1:la.length≤536870912) (h2:lb.length≤536870912) :
 Does Tryz.prog 134 [.slice a la.length ca,.slice b lb.length cb] G [] (fun v G' Ho=>Nat32 G' v (sI la*sI lb) (la.length+lb.length)∧Ho=[]):=by
 refine D0 Tryz.func134 Tryz.ntmps134 fun w=>?_
 refine aJ 12 [] ?_
 refine fV (α:=U32) 0 rfl T.sl123 T.el215 rfl rfl sE sE fun b1=>?_
 refine aZ 12 [] ?_
 obtain ⟨N,hN⟩:∃ N,N=la.length+lb.length:=⟨_,rfl⟩
 have hM:((la.length:Int)+(lb.length:Int)).toNat=N:=sE
 rw [hM]
 have hown:∀ r:List U32,r.length=N→OwnA (some ⟨b1,0,none⟩) N r []:=fun r hr=>.inr ⟨b1,rfl,by rw [hr];rfl,by omega,by simp only [maxLen];omega⟩
 refine iI 5 rfl (show _=Value.slice (some ⟨b1,0,none⟩) (List.replicate N (default:U32)).length N by rw [aI]) ?_
 refine gY (ι:=Nat×List U32) (fun (i,r)=>([(19,.int .i64 (i:Int)),(5,.slice (some ⟨b1,0,none⟩) r.length N),(18,.int .i64 (la.length:Int)),(17,.slice a (List.length la) ca),(4,.slice none 0 0),(1,.slice b (List.length lb) cb)],[(0,some b1,Row 215 r [])])) (fun (i,r)=>i≤la.length∧r.length=N∧Lims r∧sI r=sI (la.take i)*sI lb∧∀ k,i+lb.length≤k→lg r k=0) (fun (i,r)=>la.length - i) ((0,List.replicate N (default:U32))) (⟨aM _,aI,nH N,by rw [cM,tV,dV];exact Ao N,fun k _=>Ib N k⟩) fun ⟨i,r⟩=>fun hk=>?_
 obtain ⟨hi,hrN,hdr,hv,hz⟩:=hk
 rcases aK i la.length with hia | hia
 · have hxi:0≤(la[(i:Int).toNat]?.getD default).v∧(la[(i:Int).toNat]?.getD default).v<4294967296:=Bf da hia
   refine aJ 14 [1] ?_
   refine fP (α:=U32) T.sl123 ?_
   refine iY 0 T.one215 ?_
   refine aZ 18 [] ?_
   refine gY (ι:=Nat×Int×List U32) (fun (j,c,s)=>([(26,.int .i64 (j:Int)),(8,.int .u64 c),(5,.slice (some ⟨b1,0,none⟩) s.length N),(17,.slice a la.length ca),(18,.int .i64 (la.length:Int)),(25,.int .i64 (lb.length:Int)),(24,.slice b (List.length lb) cb),(7,.int .u32 (Go.Sl.U32.v (Option.getD la[Int.toNat (↑i:Int)]? default))),(6,.int .i64 (↑i:Int)),(19,.int .i64 (↑i:Int)),(4,.slice none 0 0),(1,.slice b (List.length lb) cb)],[(0,some b1,Row 215 s [])])) (fun (j,c,s)=>0≤c∧c≤4294967295∧s.length=N∧Lims s∧sI s+pb (i+j)*c=sI (la.take i)*sI lb+pb i*(lg la i*sI (lb.take j))∧j≤lb.length∧∀ k,i+lb.length≤k→lg s k=0) (fun (j,c,s)=>lb.length - j) ((0,0,r)) (⟨by decide,by decide,hrN,hdr,by rw [bL,cM,tV,bL,bL,eV,eV];exact hv,aM _,hz⟩) fun ⟨j,c,s⟩=>fun hk=>?_
   obtain ⟨hc0,hc1,hsN,hds,hvs,hjl,hzs⟩:=hk
   have hos:=hown s hsN
   have ekk:((i:Int)+(j:Int)).toNat=i+j:=sE
   rcases aK j lb.length with hjb | hjb
   · have hyj:0≤(lb[(j:Int).toNat]?.getD default).v∧(lb[(j:Int).toNat]?.getD default).v<4294967296:=Bf db hjb
     have hxy:=Co hxi hyj
     have hxy2:0≤(la[(i:Int).toNat]?.getD default).v*(lb[(j:Int).toNat]?.getD default).v∧(la[(i:Int).toNat]?.getD default).v*(lb[(j:Int).toNat]?.getD default).v≤18446744073709551615:=sE
     have hsk:0≤(s[((i:Int)+(j:Int)).toNat]?.getD default).v∧(s[((i:Int)+(j:Int)).toNat]?.getD default).v<4294967296:=hds.at sE
     refine aJ 14 [1] ?_
     refine fP (α:=U32) T.sl123 ?_
     refine iY 0 T.one215 ?_
     refine aL 8 [] ?_
     refine aO (dI rfl T.u214 rfl sE) ?_
     refine aB 1 [] ?_
     refine aO (dI rfl T.u214 rfl sE) ?_
     refine aO (pJ rfl rfl tJ) ?_
     refine aB 4 [] ?_
     refine gX (α:=U32) T.sl123 ?_
     refine mS 0 0 T.one215 ?_
     refine aO (dI rfl T.u214 rfl sE) ?_
     refine aO (jC rfl rfl sE) ?_
     refine aO (jC rfl rfl sE) ?_
     refine aL 10 [] ?_
     refine aO (iJ rfl T.u215 rfl) ?_
     refine gX (α:=U32) T.sl123 ?_
     refine cU (z:=_) 0 T.size215 rfl rfl rfl sF sE rfl fun ho1=>?_
     refine aL 4 [] ?_
     refine aO (gD rfl rfl sE) ?_
     refine aR 8 [] ?_
     rw [ekk] at ⊢ hsk
     refine cN 5 rfl (show _=Value.slice (some ⟨b1,0,none⟩) (s.set (i+j) (⟨(c+((la[(i:Int).toNat]?.getD default).v*(lb[(j:Int).toNat]?.getD default).v+(s[i+j]?.getD default).v)) % 4294967296⟩:U32)).length N by rw [aG]) ?_
     refine cL ((j+1,(c+((la[(i:Int).toNat]?.getD default).v*(lb[(j:Int).toNat]?.getD default).v+(s[i+j]?.getD default).v)) / 4294967296,s.set (i+j) (⟨(c+((la[(i:Int).toNat]?.getD default).v*(lb[(j:Int).toNat]?.getD default).v+(s[i+j]?.getD default).v)) % 4294967296⟩:U32))) ?_ ?_
     · exact ⟨by omega,by omega,by rw [aG];exact hsN,tT hds _ (Fp _),GZ sE hvs (by simp only [lg,aE]),by omega,fun k hk=>by rw [yO sE];exact hzs k hk⟩
     show lb.length - (j+1)<lb.length - j
     omega
   have hjj:j=lb.length:=sE
   subst hjj
   refine aJ 19 [0] ?_
   refine aO (kF rfl T.u215 rfl sE) ?_
   refine gX (α:=U32) T.sl123 ?_
   refine cU (z:=_) 0 T.size215 rfl rfl rfl sF sE rfl fun ho1=>?_
   refine aR 7 [] ?_
   rw [ekk]
   refine cN 5 rfl (show _=Value.slice (some ⟨b1,0,none⟩) (s.set (i+lb.length) (⟨c⟩:U32)).length N by rw [aG]) ?_
   refine cL ((i+1,s.set (i+lb.length) (⟨c⟩:U32))) ?_ ?_
   · exact ⟨by omega,by rw [aG];exact hsN,tT hds _ sE,KX sE (hzs _ (aH _)) hvs,fun k hk=>by rw [yO sE];exact hzs k sE⟩
   show la.length - (i+1)<la.length - i
   omega
 have hor:=hown r hrN
 rw [tO hia] at hv
 refine aJ 15 [0] ?_
 refine gB 0 rfl hor fun G9 hle9 hA=>?_
 refine bX 1 rfl (Mf _ _ _ _ sF sE tJ) fun v1 G1 Ho1 hle1 hp=>?_
 obtain ⟨ta1,tm1,rfl,hta1,hte1,htr1,htl1,rfl,rfl⟩:=hp
 refine aR 4 [] ?_
 refine cP ?_
 exact ⟨nP hta1 hte1 htr1 hdr hv sE,rfl⟩
theorem df (G:Imm) (a:Option Addr) (ca:Nat) (la:List U32) (B:Int) (ha:Arr G a la) (da:Lims la) (h1:la.length≤1073741824) (hB:0<B) (hB2:B<4294967296) :
 Does Tryz.prog 248 [.slice a la.length ca,.int .u32 B] G [] (fun v G' Ho=>∃ r q m,v=.tuple #[r,.int .u32 m,.int .i64 0]∧Nat32 G' r q la.length∧sI la=q*B+m∧0≤m∧m<B∧Ho=[]):=by
 refine D0 Tryz.func248 Tryz.ntmps248 fun w=>?_
 refine aJ 21 [0] ?_
 refine fV (α:=U32) 0 rfl T.sl123 T.el215 rfl rfl sE sE fun b1=>?_
 refine aZ 18 [] ?_
 obtain ⟨N,hN⟩:∃ N,N=la.length:=⟨_,rfl⟩
 have hM:(la.length:Int).toNat=N:=sE
 rw [hM]
 have hown:∀ r:List U32,r.length=N→OwnA (some ⟨b1,0,none⟩) N r []:=fun r hr=>.inr ⟨b1,rfl,by rw [hr];rfl,by omega,by simp only [maxLen];omega⟩
 refine iI 7 rfl (show _=Value.slice (some ⟨b1,0,none⟩) (List.replicate N (default:U32)).length N by rw [aI]) ?_
 refine gY (ι:=Nat×Int×List U32) (fun (k,r,q)=>([(9,.int .i64 ((k:Int) - 1)),(8,.int .u64 r),(7,.slice (some ⟨b1,0,none⟩) q.length N),(6,.int .i64 0),(5,.int .u32 0),(4,.slice none 0 0),(0,.slice a (List.length la) ca),(1,.int .u32 B)],[(0,some b1,Row 215 q [])])) (fun (k,r,q)=>k≤la.length∧q.length=N∧Lims q∧0≤r∧r<B∧sI (la.drop k)=sI (q.drop k)*B+r) (fun (k,r,q)=>k) ((la.length,0,List.replicate N (default:U32))) (⟨aH _,aI,nH N,by decide,hB,by rw [eU (aH _),eU DM,tV,dV];rfl⟩) fun ⟨k,r,q⟩=>fun hk=>?_
 obtain ⟨hk1,hqN,hdq,hr0,hr1,hv⟩:=hk
 have hoq:=hown q hqN
 rcases fZ k with rfl | hpos
 · rw [oP,oP] at hv
   refine aJ 16 [0] ?_
   refine gB 0 rfl hoq fun G9 hle9 hA=>?_
   refine bX 1 rfl (Mf _ _ _ _ sF sE tJ) fun v1 G1 Ho1 hle1 hp=>?_
   obtain ⟨ta1,tm1,rfl,hta1,hte1,htr1,htl1,rfl,rfl⟩:=hp
   refine aB 1 [] ?_
   refine aO (kF rfl T.u215 rfl sE) ?_
   refine aR 6 [] ?_
   refine kM ?_
   exact ⟨_,_,_,rfl,nP hta1 hte1 htr1 hdq rfl sE,hv,hr0,hr1,rfl⟩
 obtain ⟨i,rfl⟩:∃ i,k=i+1:=⟨k - 1,by omega⟩
 have hai:=Bf da (show i<la.length by omega)
 have ei:(((i+1:Nat):Int) - 1).toNat=i:=sE
 have eA:(la[(((i+1:Nat):Int) - 1).toNat]?.getD default).v=lg la i:=by unfold lg;rw [ei,aE]
 have hsl:=HA ⟨hr0,hr1⟩ hai
 have hsl':0≤(r*4294967296+(la[(((i+1:Nat):Int) - 1).toNat]?.getD default).v) / B∧(r*4294967296+(la[(((i+1:Nat):Int) - 1).toNat]?.getD default).v) / B≤4294967295:=by
  rw [eA]
  exact ⟨hsl.1,by have:=hsl.2;omega⟩
 have hrm:0≤(r*4294967296+lg la i) % B∧(r*4294967296+lg la i) % B<B:=⟨kY _ sE,gA _ hB⟩
 refine aJ 15 [1] ?_
 refine aO (rI rfl rfl sE) ?_
 refine aB 2 [] ?_
 refine fP (α:=U32) T.sl123 ?_
 refine iY 0 T.one215 ?_
 refine aO (dI rfl T.u214 rfl sE) ?_
 refine aO (Hu rfl rfl sE sE) ?_
 refine aL 9 [] ?_
 refine aO (dI rfl T.u214 rfl sE) ?_
 refine aO (Rw rfl rfl sE) ?_
 refine aO (kF rfl T.u215 rfl sE) ?_
 refine gX (α:=U32) T.sl123 ?_
 refine cU (z:=_) 0 T.size215 rfl rfl rfl sF sE rfl fun ho1=>?_
 refine aL 5 [] ?_
 refine aO (dI rfl T.u214 rfl sE) ?_
 refine aO (mU rfl rfl sE) ?_
 refine aR 9 [] ?_
 rw [eA]
 refine cN 9 rfl (show _=Value.int .i64 ((i:Int) - 1) by congr 1;omega) ?_
 refine fY 0 (Row 215 (q.set i ⟨(r*4294967296+lg la i) / B⟩) []) rfl (by rw [ei]) ?_
 refine cN 7 rfl (show _=Value.slice (some ⟨b1,0,none⟩) (q.set i ⟨(r*4294967296+lg la i) / B⟩).length N by rw [aG]) ?_
 refine cL ((i,(r*4294967296+lg la i) % B,q.set i ⟨(r*4294967296+lg la i) / B⟩)) ?_ ?_
 · exact ⟨by omega,by rw [aG];exact hqN,tT hdq _ hsl,hrm.1,hrm.2,Ya sE sE hv⟩
 show i<i+1
 omega
end
theorem EC {r s:List U32} {i:Nat} (h:s.drop i=r.drop i):lg s i=lg r i:=by
 have e:s[i]?=r[i]?:=by
  have:=congrArg (·[0]?) h
  simpa [kT] using this
 unfold lg;rw [aE,e]
theorem wO {r s:List U32} {i:Nat} (h:s.drop i=r.drop i) (d:U32):(s.set i d).drop (i+1)=r.drop (i+1):=by
 rw [List.drop_set_of_lt sE,←qR,←qR,h]
section
attribute [local irreducible] sI pb tY
theorem dg (G:Imm) (b:Nat) (p u q:List U32) (junk:List Value) (cw:Nat) (v:Option Addr) (cv:Nat) (lv:List U32) (t:Int) (hv:Arr G v lv) (du:Lims u) (dv:Lims lv) (h1:u.length≤1073741824) (h2:lv.length<u.length) (ht:0≤t∧t<4294967296) :
 Does Tryz.prog 269 [.slice (some ⟨b,p.length,none⟩) u.length cw,.slice v lv.length cv,.int .u64 t] G [(0,some b,Row 215 (p++(u++q)) junk)] (fun r G' Ho=>∃ (w:List U32) (o:Int),r=.bool (decide (0<o))∧Ho=[(0,some b,Row 215 (p++(w++q)) junk)]∧G'=G∧(o=0∨o=1)∧w.length=u.length∧Lims w∧sI u - t*sI lv=sI w - pb u.length*o):=by
 refine D0 Tryz.func269 Tryz.ntmps269 fun w=>?_
 refine bJ 20 [] ?_
 refine gY (ι:=Nat×Int×Int×List U32) (fun (i,c,o,w)=>([(13,.int .i64 (i:Int)),(7,.int .u64 c),(8,.int .u64 o),(12,.int .i64 (u.length:Int)),(6,.bool Bool.false),(0,.slice (some (Addr.mk b (List.length p) none)) (List.length u) cw),(1,.slice v (List.length lv) cv),(2,.int .u64 t)],[(0,some b,Row 215 (p++(w++q)) junk)])) (fun (i,c,o,w)=>i≤u.length∧w.length=u.length∧Lims w∧0≤c∧c<4294967296∧0≤o∧o≤1∧(lv.length<i→c=0)∧w.drop i=u.drop i∧sI (u.take i) - t*sI (lv.take i)=sI (w.take i) - pb i*(o+c)) (fun (i,c,o,w)=>u.length - i) ((0,0,0,u)) (⟨aM _,rfl,du,by decide,by decide,by decide,by decide,fun _=>rfl,rfl,by rw [cM,cM,tV,bL,eV,bL]⟩) fun ⟨i,c,o,w⟩=>fun hk=>?_
 obtain ⟨hi,hwn,hdw,hc0,hc1,ho0,ho1,hcz,hdrop,hval⟩:=hk
 rcases aK i u.length with hia | hia
 · have hx:0≤(w[(i:Int).toNat]?.getD default).v∧(w[(i:Int).toNat]?.getD default).v<4294967296:=Bf hdw sE
   have ex:(w[(i:Int).toNat]?.getD default).v=lg u i:=EC hdrop
   rcases aK i lv.length with hib | hib
   · have hy:0≤(lv[(i:Int).toNat]?.getD default).v∧(lv[(i:Int).toNat]?.getD default).v<4294967296:=Bf dv hib
     have hca:=CJ ⟨hc0,hc1⟩ hy ht
     have hm:0≤(lv[(i:Int).toNat]?.getD default).v*t∧(lv[(i:Int).toNat]?.getD default).v*t≤18446744073709551615:=sE
     by_cases hlt:(w[((i:Nat):Int).toNat]?.getD default).v<(c+(lv[((i:Nat):Int).toNat]?.getD default).v*t) % 4294967296
     · refine aJ 31 [1,1] ?_
       refine fP (α:=U32) T.sl123 ?_
       refine iY 0 T.one215 ?_
       refine aO (dI rfl T.u214 rfl sE) ?_
       refine aB 1 [] ?_
       refine aO (pJ rfl rfl tJ) ?_
       refine aO (jC rfl rfl sE) ?_
       refine aL 7 [] ?_
       refine aO (eI T.sl123 rfl rfl sE) ?_
       refine aO (lN 0 T.one215 rfl rfl sE) ?_
       refine aO (dI rfl T.u214 rfl sE) ?_
       refine aB 1 [] ?_
       refine aO (pL rfl rfl sE) ?_
       refine aO (qN rfl rfl sE) ?_
       refine aB 1 [] ?_
       refine aO (jM rfl rfl sE) ?_
       refine aL 6 [] ?_
       refine aO (gD rfl rfl sE) ?_
       refine aL 8 [] ?_
       refine aO (iJ rfl T.u215 rfl) ?_
       refine aO (eI T.sl123 rfl rfl sE) ?_
       refine pQ 0 T.size215 rfl rfl rfl sE ?_
       refine aL 4 [] ?_
       refine aO (gD rfl rfl sE) ?_
       refine aO (oJ rfl rfl sE) ?_
       refine aR 8 [] ?_
       have es:((w[(i:Int).toNat]?.getD default).v - (c+(lv[(i:Int).toNat]?.getD default).v*t) % 4294967296+18446744073709551616 - o) % 4294967296=((w[(i:Int).toNat]?.getD default).v - (c+(lv[(i:Int).toNat]?.getD default).v*t) % 4294967296 - o+4294967296*1):=sE
       have ec:((w[(i:Int).toNat]?.getD default).v - (c+(lv[(i:Int).toNat]?.getD default).v*t) % 4294967296+18446744073709551616 - o) / 4294967296 % 2=1:=sE
       refine cN 8 rfl (show _=Value.int .u64 1 by rw [ec]) ?_
       refine fY 0 (Row 215 (p++(w.set i (⟨((w[(i:Int).toNat]?.getD default).v - (c+(lv[(i:Int).toNat]?.getD default).v*t) % 4294967296 - o+4294967296*1)⟩:U32)++q)) junk) rfl Rl ?_
       refine cL ((i+1,(c+(lv[(i:Int).toNat]?.getD default).v*t) / 4294967296,1,w.set i (⟨((w[(i:Int).toNat]?.getD default).v - (c+(lv[(i:Int).toNat]?.getD default).v*t) % 4294967296 - o+4294967296*1)⟩:U32))) ?_ ?_
       · exact ⟨by omega,by rw [aG];exact hwn,tT hdw _ sE,by omega,by omega,by decide,by decide,by omega,wO hdrop _,Aa (c':=(c+(lv[(i:Int).toNat]?.getD default).v*t)) (b:=o) (b':=1) sE hval (by rfl) (by rw [←ex])⟩
       show u.length - (i+1)<u.length - i
       omega
     by_cases hlt2:(w[((i:Nat):Int).toNat]?.getD default).v - (c+(lv[((i:Nat):Int).toNat]?.getD default).v*t) % 4294967296<o
     · refine aJ 31 [1,1] ?_
       refine fP (α:=U32) T.sl123 ?_
       refine iY 0 T.one215 ?_
       refine aO (dI rfl T.u214 rfl sE) ?_
       refine aB 1 [] ?_
       refine aO (pJ rfl rfl tJ) ?_
       refine aO (jC rfl rfl sE) ?_
       refine aL 7 [] ?_
       refine aO (eI T.sl123 rfl rfl sE) ?_
       refine aO (lN 0 T.one215 rfl rfl sE) ?_
       refine aO (dI rfl T.u214 rfl sE) ?_
       refine aB 1 [] ?_
       refine aO (pL rfl rfl sE) ?_
       refine aO (jM rfl rfl sE) ?_
       refine aB 1 [] ?_
       refine aO (qN rfl rfl sE) ?_
       refine aL 6 [] ?_
       refine aO (gD rfl rfl sE) ?_
       refine aL 8 [] ?_
       refine aO (iJ rfl T.u215 rfl) ?_
       refine aO (eI T.sl123 rfl rfl sE) ?_
       refine pQ 0 T.size215 rfl rfl rfl sE ?_
       refine aL 4 [] ?_
       refine aO (gD rfl rfl sE) ?_
       refine aO (oJ rfl rfl sE) ?_
       refine aR 8 [] ?_
       have es:((w[(i:Int).toNat]?.getD default).v - (c+(lv[(i:Int).toNat]?.getD default).v*t) % 4294967296 - o+18446744073709551616) % 4294967296=((w[(i:Int).toNat]?.getD default).v - (c+(lv[(i:Int).toNat]?.getD default).v*t) % 4294967296 - o+4294967296*1):=sE
       have ec:((w[(i:Int).toNat]?.getD default).v - (c+(lv[(i:Int).toNat]?.getD default).v*t) % 4294967296 - o+18446744073709551616) / 4294967296 % 2=1:=sE
       refine cN 8 rfl (show _=Value.int .u64 1 by rw [ec]) ?_
       refine fY 0 (Row 215 (p++(w.set i (⟨((w[(i:Int).toNat]?.getD default).v - (c+(lv[(i:Int).toNat]?.getD default).v*t) % 4294967296 - o+4294967296*1)⟩:U32)++q)) junk) rfl Rl ?_
       refine cL ((i+1,(c+(lv[(i:Int).toNat]?.getD default).v*t) / 4294967296,1,w.set i (⟨((w[(i:Int).toNat]?.getD default).v - (c+(lv[(i:Int).toNat]?.getD default).v*t) % 4294967296 - o+4294967296*1)⟩:U32))) ?_ ?_
       · exact ⟨by omega,by rw [aG];exact hwn,tT hdw _ sE,by omega,by omega,by decide,by decide,by omega,wO hdrop _,Aa (c':=(c+(lv[(i:Int).toNat]?.getD default).v*t)) (b:=o) (b':=1) sE hval (by rfl) (by rw [←ex])⟩
       show u.length - (i+1)<u.length - i
       omega
     refine aJ 31 [1,1] ?_
     refine fP (α:=U32) T.sl123 ?_
     refine iY 0 T.one215 ?_
     refine aO (dI rfl T.u214 rfl sE) ?_
     refine aB 1 [] ?_
     refine aO (pJ rfl rfl tJ) ?_
     refine aO (jC rfl rfl sE) ?_
     refine aL 7 [] ?_
     refine aO (eI T.sl123 rfl rfl sE) ?_
     refine aO (lN 0 T.one215 rfl rfl sE) ?_
     refine aO (dI rfl T.u214 rfl sE) ?_
     refine aB 1 [] ?_
     refine aO (pL rfl rfl sE) ?_
     refine aO (jM rfl rfl sE) ?_
     refine aB 1 [] ?_
     refine aO (jM rfl rfl sE) ?_
     refine aL 6 [] ?_
     refine aO (gD rfl rfl sE) ?_
     refine aL 8 [] ?_
     refine aO (kF rfl T.u215 rfl sE) ?_
     refine aO (eI T.sl123 rfl rfl sE) ?_
     refine pQ 0 T.size215 rfl rfl rfl sE ?_
     refine aL 4 [] ?_
     refine aO (gD rfl rfl sE) ?_
     refine aO (oJ rfl rfl sE) ?_
     refine aR 8 [] ?_
     have es:((w[(i:Int).toNat]?.getD default).v - (c+(lv[(i:Int).toNat]?.getD default).v*t) % 4294967296 - o)=((w[(i:Int).toNat]?.getD default).v - (c+(lv[(i:Int).toNat]?.getD default).v*t) % 4294967296 - o+4294967296*0):=sE
     have ec:((w[(i:Int).toNat]?.getD default).v - (c+(lv[(i:Int).toNat]?.getD default).v*t) % 4294967296 - o) / 4294967296 % 2=0:=sE
     refine cN 8 rfl (show _=Value.int .u64 0 by rw [ec]) ?_
     refine fY 0 (Row 215 (p++(w.set i (⟨((w[(i:Int).toNat]?.getD default).v - (c+(lv[(i:Int).toNat]?.getD default).v*t) % 4294967296 - o+4294967296*0)⟩:U32)++q)) junk) rfl Rl ?_
     refine cL ((i+1,(c+(lv[(i:Int).toNat]?.getD default).v*t) / 4294967296,0,w.set i (⟨((w[(i:Int).toNat]?.getD default).v - (c+(lv[(i:Int).toNat]?.getD default).v*t) % 4294967296 - o+4294967296*0)⟩:U32))) ?_ ?_
     · exact ⟨by omega,by rw [aG];exact hwn,tT hdw _ sE,by omega,by omega,by decide,by decide,by omega,wO hdrop _,Aa (c':=(c+(lv[(i:Int).toNat]?.getD default).v*t)) (b:=o) (b':=0) sE hval (by rfl) (by rw [←ex])⟩
     show u.length - (i+1)<u.length - i
     omega
   have z:=Dv hib
   by_cases hlt:(w[((i:Nat):Int).toNat]?.getD default).v<(c) % 4294967296
   · refine aJ 33 [1,0] ?_
     refine aO (eI T.sl123 rfl rfl sE) ?_
     refine aO (lN 0 T.one215 rfl rfl sE) ?_
     refine aO (dI rfl T.u214 rfl sE) ?_
     refine aB 1 [] ?_
     refine aO (pL rfl rfl sE) ?_
     refine aO (qN rfl rfl sE) ?_
     refine aB 1 [] ?_
     refine aO (jM rfl rfl sE) ?_
     refine aL 6 [] ?_
     refine aO (gD rfl rfl sE) ?_
     refine aL 8 [] ?_
     refine aO (iJ rfl T.u215 rfl) ?_
     refine aO (eI T.sl123 rfl rfl sE) ?_
     refine pQ 0 T.size215 rfl rfl rfl sE ?_
     refine aL 4 [] ?_
     refine aO (gD rfl rfl sE) ?_
     refine aO (oJ rfl rfl sE) ?_
     refine aR 8 [] ?_
     have es:((w[(i:Int).toNat]?.getD default).v - (c) % 4294967296+18446744073709551616 - o) % 4294967296=((w[(i:Int).toNat]?.getD default).v - (c) % 4294967296 - o+4294967296*1):=sE
     have ec:((w[(i:Int).toNat]?.getD default).v - (c) % 4294967296+18446744073709551616 - o) / 4294967296 % 2=1:=sE
     refine cN 8 rfl (show _=Value.int .u64 1 by rw [ec]) ?_
     refine fY 0 (Row 215 (p++(w.set i (⟨((w[(i:Int).toNat]?.getD default).v - (c) % 4294967296 - o+4294967296*1)⟩:U32)++q)) junk) rfl Rl ?_
     refine cL ((i+1,(c) / 4294967296,1,w.set i (⟨((w[(i:Int).toNat]?.getD default).v - (c) % 4294967296 - o+4294967296*1)⟩:U32))) ?_ ?_
     · exact ⟨by omega,by rw [aG];exact hwn,tT hdw _ sE,by omega,by omega,by decide,by decide,by intro _;omega,wO hdrop _,Aa (c':=(c)) (b:=o) (b':=1) sE hval JL (by rw [←ex])⟩
     show u.length - (i+1)<u.length - i
     omega
   by_cases hlt2:(w[((i:Nat):Int).toNat]?.getD default).v - (c) % 4294967296<o
   · refine aJ 33 [1,0] ?_
     refine aO (eI T.sl123 rfl rfl sE) ?_
     refine aO (lN 0 T.one215 rfl rfl sE) ?_
     refine aO (dI rfl T.u214 rfl sE) ?_
     refine aB 1 [] ?_
     refine aO (pL rfl rfl sE) ?_
     refine aO (jM rfl rfl sE) ?_
     refine aB 1 [] ?_
     refine aO (qN rfl rfl sE) ?_
     refine aL 6 [] ?_
     refine aO (gD rfl rfl sE) ?_
     refine aL 8 [] ?_
     refine aO (iJ rfl T.u215 rfl) ?_
     refine aO (eI T.sl123 rfl rfl sE) ?_
     refine pQ 0 T.size215 rfl rfl rfl sE ?_
     refine aL 4 [] ?_
     refine aO (gD rfl rfl sE) ?_
     refine aO (oJ rfl rfl sE) ?_
     refine aR 8 [] ?_
     have es:((w[(i:Int).toNat]?.getD default).v - (c) % 4294967296 - o+18446744073709551616) % 4294967296=((w[(i:Int).toNat]?.getD default).v - (c) % 4294967296 - o+4294967296*1):=sE
     have ec:((w[(i:Int).toNat]?.getD default).v - (c) % 4294967296 - o+18446744073709551616) / 4294967296 % 2=1:=sE
     refine cN 8 rfl (show _=Value.int .u64 1 by rw [ec]) ?_
     refine fY 0 (Row 215 (p++(w.set i (⟨((w[(i:Int).toNat]?.getD default).v - (c) % 4294967296 - o+4294967296*1)⟩:U32)++q)) junk) rfl Rl ?_
     refine cL ((i+1,(c) / 4294967296,1,w.set i (⟨((w[(i:Int).toNat]?.getD default).v - (c) % 4294967296 - o+4294967296*1)⟩:U32))) ?_ ?_
     · exact ⟨by omega,by rw [aG];exact hwn,tT hdw _ sE,by omega,by omega,by decide,by decide,by intro _;omega,wO hdrop _,Aa (c':=(c)) (b:=o) (b':=1) sE hval JL (by rw [←ex])⟩
     show u.length - (i+1)<u.length - i
     omega
   refine aJ 33 [1,0] ?_
   refine aO (eI T.sl123 rfl rfl sE) ?_
   refine aO (lN 0 T.one215 rfl rfl sE) ?_
   refine aO (dI rfl T.u214 rfl sE) ?_
   refine aB 1 [] ?_
   refine aO (pL rfl rfl sE) ?_
   refine aO (jM rfl rfl sE) ?_
   refine aB 1 [] ?_
   refine aO (jM rfl rfl sE) ?_
   refine aL 6 [] ?_
   refine aO (gD rfl rfl sE) ?_
   refine aL 8 [] ?_
   refine aO (kF rfl T.u215 rfl sE) ?_
   refine aO (eI T.sl123 rfl rfl sE) ?_
   refine pQ 0 T.size215 rfl rfl rfl sE ?_
   refine aL 4 [] ?_
   refine aO (gD rfl rfl sE) ?_
   refine aO (oJ rfl rfl sE) ?_
   refine aR 8 [] ?_
   have es:((w[(i:Int).toNat]?.getD default).v - (c) % 4294967296 - o)=((w[(i:Int).toNat]?.getD default).v - (c) % 4294967296 - o+4294967296*0):=sE
   have ec:((w[(i:Int).toNat]?.getD default).v - (c) % 4294967296 - o) / 4294967296 % 2=0:=sE
   refine cN 8 rfl (show _=Value.int .u64 0 by rw [ec]) ?_
   refine fY 0 (Row 215 (p++(w.set i (⟨((w[(i:Int).toNat]?.getD default).v - (c) % 4294967296 - o+4294967296*0)⟩:U32)++q)) junk) rfl Rl ?_
   refine cL ((i+1,(c) / 4294967296,0,w.set i (⟨((w[(i:Int).toNat]?.getD default).v - (c) % 4294967296 - o+4294967296*0)⟩:U32))) ?_ ?_
   · exact ⟨by omega,by rw [aG];exact hwn,tT hdw _ sE,by omega,by omega,by decide,by decide,by intro _;omega,wO hdrop _,Aa (c':=(c)) (b:=o) (b':=0) sE hval JL (by rw [←ex])⟩
   show u.length - (i+1)<u.length - i
   omega
 have hii:i=u.length:=sE
 subst hii
 have hc:=hcz sE
 subst hc
 refine bE 20 [0] ?_
 refine mB [0] ?_
 rw [tO (aH _),tO sE,tO sE,eV] at hval
 exact ⟨w,o,rfl,rfl,rfl,by omega,hwn,hdw,hval⟩
end
theorem LM {u v:List U32} {m:Nat} (hu:u.length=m+3) (hv:v.length=m+2) (du:Lims u) (dv:Lims v) (h:sI u<4294967296*sI v):lg u (m+2)*4294967296+lg u (m+1)<lg v (m+1)*4294967296+4294967296:=by
 have e1:=RN hu
 have e2:=LD hv
 have e3:=yE dv (show m≤v.length by omega)
 have e4:=yE du (show m≤u.length by omega)
 have a0:=vG dv m
 have b0:=vG du m
 have hp:=xO m
 generalize lg u (m+2)*4294967296+lg u (m+1)=high at *
 generalize lg v (m+1)=v1 at *
 generalize lg v m=v0 at *
 generalize lg u m=u0 at *
 refine Int.lt_of_mul_lt_mul_left (a:=pb m*4294967296) ?_ sE
 have f1:=bU (show v0+4294967296*v1+1≤v1*4294967296+4294967296 by omega) (dW hp)
 have f2:=kI (dW hp) b0.1
 rw [cF,gH] at f1
 rw [cF,←cE] at e1
 have f3:pb m*4294967296*(v1*4294967296+4294967296)=4294967296*(pb m*(v1*4294967296+4294967296)):=by rw [cD (pb m) 4294967296,cE]
 rw [f3]
 omega
section
attribute [local irreducible] sI pb tY
theorem dh (G:Imm) (b:Nat) (p u q:List U32) (junk:List Value) (cw:Nat) (v:Option Addr) (cv:Nat) (lv:List U32) (m:Nat) (hv:Arr G v lv) (du:Lims u) (dv:Lims lv) (h1:u.length≤1073741824) (hu:u.length=m+3) (hl:lv.length=m+2) (htop:2147483648≤lg lv (m+1)) (hlt:sI u<4294967296*sI lv) :
 Does Tryz.prog 251 [.slice (some ⟨b,p.length,none⟩) u.length cw,.slice v lv.length cv] G [(0,some b,Row 215 (p++(u++q)) junk)] (fun r G' Ho=>∃ (w:List U32) (g:Int),r=.int .u32 g∧Ho=[(0,some b,Row 215 (p++(w++q)) junk)]∧G'=G∧0≤g∧g<4294967296∧w.length=u.length∧Lims w∧sI w=sI u - g*sI lv∧sI w<sI lv):=by
 have hU2:=vG du (m+2)
 have hU1:=vG du (m+1)
 have hU0:=vG du m
 have hV1:=vG dv (m+1)
 have hV0:=vG dv m
 have eu2:(u[((lv.length:Nat):Int).toNat]?.getD default).v=lg u (m+2):=by unfold lg;rw [hl]
 have eu1:(u[(((lv.length:Nat):Int) - 1).toNat]?.getD default).v=lg u (m+1):=by unfold lg;rw [show (((lv.length:Nat):Int) - 1).toNat=((m+1:Nat):Int).toNat by omega]
 have eu0:(u[(((lv.length:Nat):Int) - 2).toNat]?.getD default).v=lg u m:=by unfold lg;rw [show (((lv.length:Nat):Int) - 2).toNat=(m:Int).toNat by omega]
 have ev1:(lv[(((lv.length:Nat):Int) - 1).toNat]?.getD default).v=lg lv (m+1):=by unfold lg;rw [show (((lv.length:Nat):Int) - 1).toNat=((m+1:Nat):Int).toNat by omega]
 have ev0:(lv[(((lv.length:Nat):Int) - 2).toNat]?.getD default).v=lg lv m:=by unfold lg;rw [show (((lv.length:Nat):Int) - 2).toNat=(m:Int).toNat by omega]
 refine D0 Tryz.func251 Tryz.ntmps251 fun w=>?_
 have hp1:0<lg lv (m+1):=sE
 obtain ⟨high,hhigh⟩:∃ high,high=lg u (m+2)*4294967296+lg u (m+1):=⟨_,rfl⟩
 obtain ⟨hk1,hk2,hk3,hk4,hk5⟩:=LF hu hl du dv hhigh hp1 rfl rfl
 have hq:=Int.ediv_le_self (lg lv (m+1)) (show 0≤high by omega)
 have hVm:0<sI lv:=by
  have:=LD hl
  have h3:=yE dv (show m≤lv.length by omega)
  have h4:=Int.mul_pos (xO m) (show 0<lg lv m+4294967296*lg lv (m+1) by omega)
  omega
 have hUp:sI u<4294967296*sI lv:=hlt
 have hbrk:high<lg lv (m+1)*4294967296+4294967296:=hhigh▸LM hu hl du dv hlt
 refine bJ 5 [] ?_
 refine mH ?_
 refine bJ 8 [] ?_
 refine cX [0] [] T.mixed [[0],[1]] ?_
 refine dN 2 [] rfl (eI T.sl123 rfl rfl sE) ?_
 refine dN 3 [0] rfl (lN 0 T.one215 rfl rfl sE) ?_
 refine dN 4 [] rfl (dI rfl T.u214 rfl sE) ?_
 refine dN 5 [] rfl (rI rfl rfl sE) ?_
 refine dE [[6],[7],[8]] ?_
 refine dN 9 [] rfl (eI T.sl123 rfl rfl sE) ?_
 refine dN 10 [0] rfl (lN 0 T.one215 rfl rfl sE) ?_
 refine dN 11 [] rfl (dI rfl T.u214 rfl sE) ?_
 refine dN 12 [] rfl (Hu rfl rfl sE sE) ?_
 refine dE [[13]] ?_
 refine cZ ?_
 refine cO ?_
 refine oH (ι:=Int×Int) (fun (g,r)=>([(0,.slice (some ⟨b,p.length,none⟩) u.length cw),(1,.slice v lv.length cv),(5,.int .i64 (lv.length:Int)),(7,.int .u64 g),(8,.int .u64 r),(4,.int .u32 0)],[(0,some b,Row 215 (p++(u++q)) junk)])) (fun (g,r)=>g*lg lv (m+1)+r=high∧0≤g∧g≤18446744073709551615∧0≤r∧r<4294967296∧sI u<(g+1)*sI lv) ?_ fun ⟨g,r⟩=>fun (hk:g*lg lv (m+1)+r=high∧0≤g∧g≤18446744073709551615∧0≤r∧r<4294967296∧sI u<(g+1)*sI lv)=>?_
 · refine cX [0] [] T.mixed [[0],[1],[2],[3]] ?_
   refine mQ (α:=U32) 4 T.sl123 ?_
   refine qU 5 [0] 0 T.one215 ?_
   refine dN 6 [] rfl (dI rfl T.u214 rfl sE) ?_
   refine dN 7 [] rfl (Rw rfl rfl sE) ?_
   refine dE [[8],[9],[10],[11]] ?_
   refine mQ (α:=U32) 12 T.sl123 ?_
   refine qU 13 [0] 0 T.one215 ?_
   refine dN 14 [] rfl (dI rfl T.u214 rfl sE) ?_
   refine dN 15 [] rfl (mU rfl rfl sE) ?_
   refine dE [[16],[17]] ?_
   refine cZ ?_
   refine cN 7 rfl (show _=Value.int .u64 (high / lg lv (m+1)) by rw [eu2,eu1,ev1,hhigh]) ?_
   refine cN 8 rfl (show _=Value.int .u64 (high % lg lv (m+1)) by rw [eu2,eu1,ev1,hhigh]) ?_
   refine mC ((high / lg lv (m+1),high % lg lv (m+1))) ?_
   exact ⟨hk1,hk2,by omega,hk3,by omega,hk5⟩
 obtain ⟨hg1,hg2,hg3,hr1,hr2,hgu⟩:=hk
 clear hk1 hk2 hk3 hk4 hk5 hq
 refine bJ 3 [] ?_
 refine oH (ι:=Int) (fun gg=>([(0,.slice (some ⟨b,p.length,none⟩) u.length cw),(1,.slice v lv.length cv),(5,.int .i64 (lv.length:Int)),(7,.int .u64 gg),(4,.int .u32 0)],[(0,some b,Row 215 (p++(u++q)) junk)])) (fun gg=>0≤gg∧gg<4294967296∧sI u<(gg+1)*sI lv∧(gg - 1)*sI lv≤sI u) ?_ fun gg=>fun (hk:0≤gg∧gg<4294967296∧sI u<(gg+1)*sI lv∧(gg - 1)*sI lv≤sI u)=>?_
 · refine Wc.block ?_
   refine gY (ι:=Int×Int) (fun (g,r)=>([(7,.int .u64 g),(8,.int .u64 r),(0,.slice (some (Addr.mk b (List.length p) none)) (List.length u) cw),(1,.slice v (List.length lv) cv),(5,.int .i64 (lv.length:Int)),(4,.int .u32 0)],[(0,some b,Row 215 (p++(u++q)) junk)])) (fun (g,r)=>g*lg lv (m+1)+r=high∧0≤g∧g≤18446744073709551615∧0≤r∧r<4294967296∧sI u<(g+1)*sI lv) (fun (g,r)=>(4294967296 - r).toNat) ((g,r)) (⟨hg1,hg2,hg3,hr1,hr2,hgu⟩) fun ⟨g,r⟩=>fun (hk:g*lg lv (m+1)+r=high∧0≤g∧g≤18446744073709551615∧0≤r∧r<4294967296∧sI u<(g+1)*sI lv)=>?_
   clear hg1 hg2 hg3 hr1 hr2 hgu
   obtain ⟨hg1,hg2,hg3,hr1,hr2,hgu⟩:=hk
   have dec:4294967296≤g∨r*4294967296+lg u m<g*lg lv m→1≤g∧(g - 1)*lg lv (m+1)+(r+lg lv (m+1))=high∧sI u<(g - 1+1)*sI lv:=fun hd=>by
    have hg0:1≤g:=by
     rcases hd with hd | hd
     · omega
     rcases (show g=0∨1≤g by omega) with h | h
     · rw [h,dV] at hd;omega
     exact h
    refine ⟨hg0,by rw [kN,cY];omega,?_⟩
    rw [show g - 1+1=g by omega]
    rcases hd with hd | hd
    · have:=hS hd (dW hVm)
      omega
    exact WH hu hl du dv hhigh hg1 hg2 hd
   have brk:(g - 1)*lg lv (m+1)+(r+lg lv (m+1))=high→sI u<(g - 1+1)*sI lv→4294967296≤r+lg lv (m+1)→1≤g→0≤g - 1∧g - 1<4294967296∧sI u<(g - 1+1)*sI lv∧(g - 1 - 1)*sI lv≤sI u:=fun h h2 h3 h4=>by
    have hlt':=LC h h3 hp1 hbrk
    have hm0:=Co ⟨(show 0≤g - 1 by omega),hlt'⟩ hV0
    exact ⟨by omega,hlt',h2,LG hu hl du dv hhigh h ⟨by omega,hlt'⟩ sE sE⟩
   by_cases hgb:g<4294967296
   · have hm0:=Co ⟨hg2,hgb⟩ hV0
     have hm:0≤g*(lv[(((lv.length:Nat):Int) - 2).toNat]?.getD default).v∧g*(lv[(((lv.length:Nat):Int) - 2).toNat]?.getD default).v≤18446744073709551615:=by rw [ev0];omega
     by_cases hcond:r*4294967296+lg u m<g*lg lv m
     · obtain ⟨hg0,hnx,hnu⟩:=dec (.inr hcond)
       have hcond':r*4294967296+(u[(((lv.length:Nat):Int) - 2).toNat]?.getD default).v<g*(lv[(((lv.length:Nat):Int) - 2).toNat]?.getD default).v:=by rw [eu0,ev0];exact hcond
       refine bJ 2 [] ?_
       refine cX [0] [] T.mixed [[0]] ?_
       refine dN 1 [] rfl (gD rfl rfl sE) ?_
       refine dE [[2],[3]] ?_
       refine Gm.no 45 rfl tJ ?_
       refine dE [[4],[5],[6],[7]] ?_
       refine pF 8 [] rfl (jA (α:=U32) T.sl123 rfl rfl sF sE) ?_
       refine pF 9 [0] rfl (cJ T.one215 rfl (iC sF sE 0 rfl rfl)) ?_
       refine pF 10 [] rfl (dI rfl T.u214 rfl sE) ?_
       refine pF 11 [] rfl (pJ rfl rfl tJ) ?_
       refine dE [[12]] ?_
       refine pF 13 [] rfl (rI rfl rfl sE) ?_
       refine dE [[14],[15],[16]] ?_
       refine pF 17 [] rfl (eI T.sl123 rfl rfl sE) ?_
       refine pF 18 [0] rfl (lN 0 T.one215 rfl rfl sE) ?_
       refine pF 19 [] rfl (dI rfl T.u214 rfl sE) ?_
       refine pF 20 [] rfl (Hu rfl rfl sE sE) ?_
       refine dE [[21],[22]] ?_
       refine cZ ?_
       refine nE 8 [1] ?_
       refine aO (jM rfl rfl sE) ?_
       refine aL 9 [] ?_
       refine fP (α:=U32) T.sl123 ?_
       refine iY 0 T.one215 ?_
       refine aO (dI rfl T.u214 rfl sE) ?_
       refine aO (jC rfl rfl sE) ?_
       refine aL 6 [] ?_
       refine aO (gD rfl rfl sE) ?_
       refine aZ 3 [] ?_
       refine cT (fun hc1=>?_) fun hc1=>?_
       refine bE 4 [] ?_
       rotate_left
       refine bE 2 [] ?_
       rotate_left
       · refine cN 7 rfl rfl ?_
         refine mC (g - 1) ?_
         exact brk hnx hnu (by rw [←ev1];omega) hg0
       refine cN 8 rfl (show _=Value.int .u64 (r+lg lv (m+1)) by rw [ev1]) ?_
       refine cL ((g - 1,r+lg lv (m+1))) ?_ ?_
       · exact ⟨hnx,by omega,by omega,by omega,by rw [←ev1];omega,hnu⟩
       show (4294967296 - (r+lg lv (m+1))).toNat<(4294967296 - r).toNat
       omega
     have hcond':¬r*4294967296+(u[(((lv.length:Nat):Int) - 2).toNat]?.getD default).v<g*(lv[(((lv.length:Nat):Int) - 2).toNat]?.getD default).v:=by rw [eu0,ev0];exact hcond
     refine bJ 2 [] ?_
     refine cX [0] [] T.mixed [[0]] ?_
     refine dN 1 [] rfl (gD rfl rfl sE) ?_
     refine dE [[2],[3]] ?_
     refine Gm.no 45 rfl tJ ?_
     refine dE [[4],[5],[6],[7]] ?_
     refine pF 8 [] rfl (jA (α:=U32) T.sl123 rfl rfl sF sE) ?_
     refine pF 9 [0] rfl (cJ T.one215 rfl (iC sF sE 0 rfl rfl)) ?_
     refine pF 10 [] rfl (dI rfl T.u214 rfl sE) ?_
     refine pF 11 [] rfl (pJ rfl rfl tJ) ?_
     refine dE [[12]] ?_
     refine pF 13 [] rfl (rI rfl rfl sE) ?_
     refine dE [[14],[15],[16]] ?_
     refine pF 17 [] rfl (eI T.sl123 rfl rfl sE) ?_
     refine pF 18 [0] rfl (lN 0 T.one215 rfl rfl sE) ?_
     refine pF 19 [] rfl (dI rfl T.u214 rfl sE) ?_
     refine pF 20 [] rfl (Hu rfl rfl sE sE) ?_
     refine dE [[21],[22]] ?_
     refine cZ ?_
     refine dX 6 [0] ?_
     refine mC (g) ?_
     exact ⟨hg2,hgb,hgu,LG hu hl du dv hhigh hg1 ⟨hg2,hgb⟩ sE sE⟩
   obtain ⟨hg0,hnx,hnu⟩:=dec (.inl sE)
   refine bJ 2 [] ?_
   refine cX [0] [] T.mixed [[0]] ?_
   refine dN 1 [] rfl (gD rfl rfl sE) ?_
   refine dE [[2],[3]] ?_
   refine oA 45 rfl tJ ?_
   refine dE [[4],[5],[6],[7],[8],[9],[10],[11],[12],[13],[14],[15],[16],[17],[18],[19],[20],[21],[22]] ?_
   refine cZ ?_
   refine nE 8 [1] ?_
   refine aO (jM rfl rfl sE) ?_
   refine aL 9 [] ?_
   refine fP (α:=U32) T.sl123 ?_
   refine iY 0 T.one215 ?_
   refine aO (dI rfl T.u214 rfl sE) ?_
   refine aO (jC rfl rfl sE) ?_
   refine aL 6 [] ?_
   refine aO (gD rfl rfl sE) ?_
   refine aZ 3 [] ?_
   refine cT (fun hc1=>?_) fun hc1=>?_
   refine bE 4 [] ?_
   rotate_left
   refine bE 2 [] ?_
   rotate_left
   · refine cN 7 rfl rfl ?_
     refine mC (g - 1) ?_
     exact brk hnx hnu (by rw [←ev1];omega) hg0
   refine cN 8 rfl (show _=Value.int .u64 (r+lg lv (m+1)) by rw [ev1]) ?_
   refine cL ((g - 1,r+lg lv (m+1))) ?_ ?_
   · exact ⟨hnx,by omega,by omega,by omega,by rw [←ev1];omega,hnu⟩
   show (4294967296 - (r+lg lv (m+1))).toNat<(4294967296 - r).toNat
   omega
 clear hg1 hg2 hg3 hr1 hr2 hgu
 obtain ⟨hg1,hg2,hg3,hg4⟩:=hk
 refine aJ 6 [] ?_
 refine bX 0 rfl (dg _ b p u q junk cw v cv lv gg hv du dv h1 sE ⟨hg1,hg2⟩) fun r1 G1 Ho1 hle1 hp=>?_
 obtain ⟨lw1,lo1,rfl,rfl,rfl,hlo1,hln1,hld1,hlv1⟩:=hp
 have hfew:=vW hld1
 have hnn:=tS hld1
 rcases hlo1 with hlo1 | hlo1
 · subst hlo1
   rw [bL,kV] at hlv1
   refine aO (fF rfl) ?_
   refine aL 6 [1] ?_
   refine aO (kF rfl T.u215 rfl sE) ?_
   refine aR 5 [] ?_
   refine iR ?_
   refine mB [0] ?_
   refine ⟨lw1,gg,rfl,rfl,rfl,hg1,hg2,hln1,hld1,hlv1.symm,?_⟩
   rw [jW,cY] at hg3
   omega
 subst hlo1
 rw [gH,←hln1] at hlv1
 have hover:sI u<gg*sI lv:=sE
 have hgp:1≤gg:=by
  rcases (show gg=0∨1≤gg by omega) with h | h
  · rw [h,dV] at hover
    have:=tS du
    omega
  exact h
 refine aO (fF rfl) ?_
 refine aL 8 [0] ?_
 refine aO (jM rfl rfl sE) ?_
 refine aZ 17 [] ?_
 refine gY (ι:=Nat×Int×List U32) (fun (i,c,z)=>([(89,.int .i64 (i:Int)),(9,.int .u64 c),(88,.int .i64 (u.length:Int)),(7,.int .u64 (gg - 1)),(0,.slice (some (Addr.mk b (List.length p) none)) (List.length u) cw),(1,.slice v (List.length lv) cv),(5,.int .i64 (lv.length:Int)),(4,.int .u32 0)],[(0,some b,Row 215 (p++(z++q)) junk)])) (fun (i,c,z)=>i≤lw1.length∧z.length=lw1.length∧Lims z∧0≤c∧c≤1∧z.drop i=lw1.drop i∧sI (lw1.take i)+sI (lv.take i)=sI (z.take i)+pb i*c) (fun (i,c,z)=>lw1.length - i) ((0,0,lw1)) (⟨aM _,rfl,hld1,by decide,by decide,rfl,by rw [cM,cM,tV,bL]⟩) fun ⟨i,c,z⟩=>fun hk=>?_
 obtain ⟨hi,hzn,hzd,hc0,hc1,hdrop,hval⟩:=hk
 rcases aK i lw1.length with hia | hia
 · have hx:0≤(z[(i:Int).toNat]?.getD default).v∧(z[(i:Int).toNat]?.getD default).v<4294967296:=Bf hzd sE
   have ex:(z[(i:Int).toNat]?.getD default).v=lg lw1 i:=EC hdrop
   rcases aK i lv.length with hib | hib
   · have hy:0≤(lv[(i:Int).toNat]?.getD default).v∧(lv[(i:Int).toNat]?.getD default).v<4294967296:=Bf dv hib
     refine aJ 22 [1] ?_
     refine aO (eI T.sl123 rfl rfl sE) ?_
     refine aO (lN 0 T.one215 rfl rfl sE) ?_
     refine aO (dI rfl T.u214 rfl sE) ?_
     refine aO (jC rfl rfl sE) ?_
     refine aL 16 [1] ?_
     refine fP (α:=U32) T.sl123 ?_
     refine iY 0 T.one215 ?_
     refine aO (dI rfl T.u214 rfl sE) ?_
     refine aO (jC rfl rfl sE) ?_
     refine aL 8 [] ?_
     refine aO (iJ rfl T.u215 rfl) ?_
     refine aO (eI T.sl123 rfl rfl sE) ?_
     refine pQ 0 T.size215 rfl rfl rfl sE ?_
     refine aL 4 [] ?_
     refine aO (gD rfl rfl sE) ?_
     refine aR 8 [] ?_
     refine fY 0 (Row 215 (p++(z.set i (⟨(c+(z[(i:Int).toNat]?.getD default).v+(lv[(i:Int).toNat]?.getD default).v) % 4294967296⟩:U32)++q)) junk) rfl Xa ?_
     refine cL ((i+1,(c+(z[(i:Int).toNat]?.getD default).v+(lv[(i:Int).toNat]?.getD default).v) / 4294967296,z.set i (⟨(c+(z[(i:Int).toNat]?.getD default).v+(lv[(i:Int).toNat]?.getD default).v) % 4294967296⟩:U32))) ?_ ?_
     · exact ⟨by omega,by rw [aG];exact hzn,tT hzd _ (Fp _),by omega,by omega,wO hdrop _,Hx sE hval (by rw [ex];rfl)⟩
     show lw1.length - (i+1)<lw1.length - i
     omega
   have hz0:=Dv hib
   refine aJ 22 [1] ?_
   refine aO (eI T.sl123 rfl rfl sE) ?_
   refine aO (lN 0 T.one215 rfl rfl sE) ?_
   refine aO (dI rfl T.u214 rfl sE) ?_
   refine aO (jC rfl rfl sE) ?_
   refine aL 19 [0] ?_
   refine aO (iJ rfl T.u215 rfl) ?_
   refine aO (eI T.sl123 rfl rfl sE) ?_
   refine pQ 0 T.size215 rfl rfl rfl sE ?_
   refine aL 4 [] ?_
   refine aO (gD rfl rfl sE) ?_
   refine aR 8 [] ?_
   refine fY 0 (Row 215 (p++(z.set i (⟨(c+(z[(i:Int).toNat]?.getD default).v) % 4294967296⟩:U32)++q)) junk) rfl Xa ?_
   refine cL ((i+1,(c+(z[(i:Int).toNat]?.getD default).v) / 4294967296,z.set i (⟨(c+(z[(i:Int).toNat]?.getD default).v) % 4294967296⟩:U32))) ?_ ?_
   · exact ⟨by omega,by rw [aG];exact hzn,tT hzd _ (Fp _),by omega,by omega,wO hdrop _,Hx sE hval (by rw [ex,hz0,eV])⟩
   show lw1.length - (i+1)<lw1.length - i
   omega
 have hii:i=lw1.length:=sE
 subst hii
 have hvl:=vW dv
 have hpl:=Nu (show lv.length≤lw1.length by omega)
 have hback:=LH (g:=gg) (u:=u) (n:=lw1.length) sE hg4 hover rfl hzn sE sE hzd ⟨hc0,hc1⟩ hval
 refine aJ 15 [0] ?_
 refine aO (kF rfl T.u215 rfl sE) ?_
 refine aR 4 [] ?_
 refine iR ?_
 refine mB [0] ?_
 refine ⟨z,gg - 1,rfl,rfl,rfl,by omega,by omega,by omega,hzd,hback,?_⟩
 rw [kN,cY] at hback
 omega
end
theorem yP {s:Nat} (hs:s≤32):∃ Q:Int,((2 ^ s:Nat):Int)*Q=4294967296∧0<Q∧0<((2 ^ s:Nat):Int):=by
 refine ⟨((2 ^ (32 - s):Nat):Int),?_,?_,?_⟩
 · rw [←jQ,←mP,Nat.add_sub_cancel' hs];decide
 · have:0<2 ^ (32 - s):=pA sN
   omega
 have:0<2 ^ s:=pA sN
 omega
theorem HB {X:Int} {s:Nat} (hs:s≤32) (hX:0≤X∧X<4294967296):(X*((2 ^ s:Nat):Int)) % 4294967296 % ((2 ^ s:Nat):Int)=0∧0≤X*((2 ^ s:Nat):Int) / 4294967296∧X*((2 ^ s:Nat):Int) / 4294967296<((2 ^ s:Nat):Int)∧0≤X*((2 ^ s:Nat):Int)∧X*((2 ^ s:Nat):Int)<18446744073709551616:=by
 obtain ⟨Q,h1,h2,h3⟩:=yP hs
 generalize ((2 ^ s:Nat):Int)=P at *
 have hn:=kI hX.1 (dW h3)
 have hlt:=Int.mul_lt_mul_of_pos_right hX.2 h3
 have hP:P≤4294967296:=by
  have:=bU (show 1≤Q by omega) (dW h3)
  omega
 refine ⟨?_,nZ hn sN,nC sN (by rw [cD P];exact hlt),hn,by omega⟩
 rw [Int.emod_emod_of_dvd _ ⟨Q,h1.symm⟩]
 exact Int.mul_emod_left X P
theorem LN {la r:List U32} {i d:Nat} {P hi lo:Int} (hk:i+d+1<r.length) (hz:lg r (i+d+1)=0) (hv:sI r=pb d*P*sI (la.take i)) (hlo:lo=lg r (i+d)+lg la i*P % 4294967296) (hhi:hi=lg la i*P / 4294967296) :
 sI ((r.set (i+d) ⟨lo⟩).set (i+d+1) ⟨hi⟩)=pb d*P*sI (la.take (i+1)):=by
 rw [Bv _ _ _ (by rw [aG];exact hk),Bv r _ _ sE,yO sE,hz,tX,hv,hlo,hhi,wY,CF]
 have h1:=Ut (pb i*pb d) (lg la i*P)
 show pb d*P*sI (la.take i)+pb i*pb d*(lg r (i+d)+lg la i*P % 4294967296 - lg r (i+d))+4294967296*(pb i*pb d)*(lg la i*P / 4294967296 - 0)=_
 have e1:lg r (i+d)+lg la i*P % 4294967296 - lg r (i+d)=lg la i*P % 4294967296:=sE
 have e2:pb d*P*(pb i*lg la i)=pb i*pb d*(lg la i*P):=by
  rw [cD (pb i) (pb d),cE,cE,cD (lg la i) P,eO P]
 rw [e1,kV,cF,e2,←h1]
 omega
theorem Ye {A0 A1:Int} {s:Nat} (hs:s≤32) (h0:0≤A0∧A0<4294967296) (h1:0≤A1∧A1<4294967296):((2 ^ s:Nat):Int)*(((A1*4294967296+A0) / ((2 ^ s:Nat):Int)) % 4294967296)=4294967296*(A1 % ((2 ^ s:Nat):Int))+A0 - A0 % ((2 ^ s:Nat):Int):=by
 obtain ⟨Q,hQ,hQ0,hP⟩:=yP hs
 generalize ((2 ^ s:Nat):Int)=P at *
 have e0:=jL A0 P
 have e1:=jL A1 P
 have n0:=kY A0 (oL hP)
 have l0:=gA A0 hP
 have n1:=kY A1 (oL hP)
 have l1:=gA A1 hP
 have q0:=nZ h0.1 (dW hP)
 have q0':A0 / P<Q:=nC hP (by rw [cD];omega)
 generalize A0 % P=r0 at *
 generalize A1 % P=r1 at *
 generalize A0 / P=y0 at *
 generalize A1 / P=y1 at *
 have e2:A1*4294967296+A0=r0+P*(A1*Q+y0):=by
  rw [cF,eO P,hQ];omega
 have e3:(A1*4294967296+A0) / P=A1*Q+y0:=by
  rw [e2,Int.add_mul_ediv_left _ _ (oL hP),qA n0 l0,jV]
 have e4:A1*Q+y0=r1*Q+y0+4294967296*y1:=by
  rw [←e1,jW,←hQ,Int.mul_right_comm P Q y1,cE P y1 Q];omega
 have f1:=kI n1 (dW hQ0)
 have f2:=hS (show r1+1≤P by omega) (dW hQ0)
 rw [jW,cY,hQ] at f2
 have e5:(A1*Q+y0) % 4294967296=r1*Q+y0:=by
  rw [e4,Int.add_mul_emod_self_left,rP sE sE]
 rw [e3,e5,cF,eO P r1 Q,hQ]
 omega
theorem Yf {m r:List U32} {i:Nat} {P out ρ:Int} (hi:i<r.length) (hv:P*sI (r.take i)+ρ=sI (m.take i)+pb i*(lg m i % P)) (ho:P*out=4294967296*(lg m (i+1) % P)+lg m i - lg m i % P) :
 P*sI ((r.set i ⟨out⟩).take (i+1))+ρ=sI (m.take (i+1))+pb (i+1)*(lg m (i+1) % P):=by
 rw [tX (r.set i _),tX m,Ge hi,mF (aH i),wY,cF,eO P,ho,kO,cF,eO (pb i) 4294967296]
 rw [cE]
 omega
theorem RU {m r:List U32} {P:Int} (hP:0<P) (hn:r.length=m.length) (hv:P*sI (r.take m.length)+lg m 0 % P=sI (m.take m.length)+pb m.length*(lg m m.length % P)):sI r=sI m / P:=by
 rw [tO sE,tO (aH _),Dv (aH _),Int.zero_emod,bL,eV] at hv
 rw [←hv,rQ,Int.add_mul_ediv_left _ _ (oL hP),qA (kY _ (oL hP)) (gA _ hP),jV]
theorem LO {x y:Int} {s:Nat} (hs:s≤32) (hx:x<((2 ^ s:Nat):Int)) (h0:0≤x) (hy:0≤y∧y<4294967296) (hm:y % ((2 ^ s:Nat):Int)=0):0≤x+y∧x+y<4294967296:=by
 obtain ⟨Q,hQ,hQ0,hP⟩:=yP hs
 generalize ((2 ^ s:Nat):Int)=P at *
 refine ⟨by omega,?_⟩
 have h1:=jL y P
 rw [hm,jV] at h1
 have h2:y / P<Q:=nC hP (by rw [cD];omega)
 have h3:=bU (show y / P+1≤Q by omega) (dW hP)
 rw [cF,gH,hQ,h1] at h3
 omega
section
attribute [local irreducible] sI pb tY
theorem YV (G:Imm) (a:Option Addr) (ca:Nat) (la:List U32) (d s:Nat) (ha:Arr G a la) (da:Lims la) (h1:la.length≤1073741824) (hs:s<32) (hd:d≤1000) :
 Does Tryz.prog 250 [.slice a la.length ca,.int .i64 ((32*d+s:Nat):Int)] G [] (fun v G' Ho=>∃ r,v=.tuple #[r,.int .i64 0]∧Nat32 G' r (pb d*((2 ^ s:Nat):Int)*sI la) (la.length+d+1)∧Ho=[]):=by
 refine D0 Tryz.func250 Tryz.ntmps250 fun w=>?_
 have ed:((32*d+s:Nat):Int) / 32=(d:Int):=sE
 have es:((32*d+s:Nat):Int) % 32=(s:Int):=sE
 have hP:0<((2 ^ s:Nat):Int):=(yP sE).choose_spec.2.2
 refine aJ 31 [0,0] ?_
 refine aO (rB rfl rfl sE) ?_
 refine aB 2 [] ?_
 refine fV (α:=U32) 0 rfl T.sl123 T.el215 rfl rfl sE sE fun b1=>?_
 refine aL 6 [] ?_
 refine aO (mU rfl rfl sE) ?_
 refine aZ 12 [] ?_
 obtain ⟨N,hN⟩:∃ N,N=la.length+d+1:=⟨_,rfl⟩
 have hM:((la.length:Int)+((32*d+s:Nat):Int) / 32+1).toNat=N:=sE
 rw [hM]
 have hown:∀ r:List U32,r.length=N→OwnA (some ⟨b1,0,none⟩) N r []:=fun r hr=>.inr ⟨b1,rfl,by rw [hr];rfl,by omega,by simp only [maxLen];omega⟩
 refine iI 6 rfl (show _=Value.slice (some ⟨b1,0,none⟩) (List.replicate N (default:U32)).length N by rw [aI]) ?_
 refine iI 7 rfl (show _=Value.int .i64 (s:Int) by rw [es]) ?_
 refine gY (ι:=Nat×List U32) (fun (i,r)=>([(26,.int .i64 (i:Int)),(6,.slice (some ⟨b1,0,none⟩) r.length N),(7,.int .i64 (↑s:Int)),(25,.int .i64 (la.length:Int)),(24,.slice a (List.length la) ca),(5,.int .i64 0),(4,.slice none 0 0),(1,.int .i64 (↑(32*d+s):Int))],[(0,some b1,Row 215 r [])])) (fun (i,r)=>i≤la.length∧r.length=N∧Lims r∧sI r=pb d*((2 ^ s:Nat):Int)*sI (la.take i)∧lg r (i+d)<((2 ^ s:Nat):Int)∧∀ k,i+d<k→lg r k=0) (fun (i,r)=>la.length - i) ((0,List.replicate N (default:U32))) (⟨aM _,aI,nH N,by rw [cM,tV,bL];exact Ao N,by rw [Ib];exact hP,fun k _=>Ib N k⟩) fun ⟨i,r⟩=>fun hk=>?_
 obtain ⟨hi,hrN,hdr,hv,hlow,hz⟩:=hk
 have hor:=hown r hrN
 rcases aK i la.length with hia | hia
 · have hx:0≤(la[(i:Int).toNat]?.getD default).v∧(la[(i:Int).toNat]?.getD default).v<4294967296:=Bf da hia
   have ekk:((i:Int)+((32*d+s:Nat):Int) / 32).toNat=i+d:=sE
   have hpt:=HB (s:=s) sE hx
   refine aJ 14 [1] ?_
   refine fP (α:=U32) T.sl123 ?_
   refine iY 0 T.one215 ?_
   refine aL 7 [] ?_
   refine aO (dI rfl T.u214 rfl sE) ?_
   refine aB 1 [] ?_
   refine aO (RK rfl rfl sE sE) ?_
   refine aL 8 [] ?_
   refine aO (rB rfl rfl sE) ?_
   refine aB 1 [] ?_
   refine gX (α:=U32) T.sl123 ?_
   refine mS 0 0 T.one215 ?_
   refine aB 1 [] ?_
   refine aO (iJ rfl T.u215 rfl) ?_
   refine aO (rV rfl rfl) ?_
   refine gX (α:=U32) T.sl123 ?_
   refine cU (z:=_) 0 T.size215 rfl rfl rfl sF sE rfl fun ho1=>?_
   refine aL 6 [] ?_
   refine aO (rB rfl rfl sE) ?_
   refine aB 2 [] ?_
   refine gX (α:=U32) T.sl123 ?_
   obtain ⟨r1,hr1⟩:∃ r1,r1=r.set (i+d) (⟨lg r (i+d)+(la[(i:Int).toNat]?.getD default).v*((2 ^ s:Nat):Int) % 4294967296⟩:U32):=⟨_,rfl⟩
   have hk0:=vG hdr (i+d)
   have hlo:bits BinOp.or IntKind.u32 (r[((i:Int)+((32*d+s:Nat):Int) / 32).toNat]?.getD default).v ((la[(i:Int).toNat]?.getD default).v*((2 ^ s:Nat):Int) % 4294967296)=lg r (i+d)+(la[(i:Int).toNat]?.getD default).v*((2 ^ s:Nat):Int) % 4294967296:=by
    rw [ekk]
    exact Lt _ _ s ⟨hk0.1,hlow⟩ (Fp _) sE hpt.1
   have hr1N:r1.length=N:=by rw [hr1,aG];exact hrN
   have hsum:=LO (s:=s) sE hlow hk0.1 (Fp _) hpt.1
   have hd1:Lims r1:=by rw [hr1];exact tT hdr _ hsum
   have hz1:lg r1 (i+d+1)=0:=by rw [hr1,yO sE];exact hz _ sE
   have hor1:=hown r1 hr1N
   refine nU 0 (Row 215 r1 []) rfl ?_ ?_
   · show Row 215 (r.set ((i:Int)+((32*d+s:Nat):Int) / 32).toNat ⟨bits BinOp.or IntKind.u32 (r[((i:Int)+((32*d+s:Nat):Int) / 32).toNat]?.getD default).v ((la[(i:Int).toNat]?.getD default).v*((2 ^ s:Nat):Int) % 4294967296)⟩) []=_
     rw [hlo,ekk,hr1]
   skip
   refine aO (fG (m:=(i:Int)+((32*d+s:Nat):Int) / 32+1) (c:=N) (xs:=r1) (junk:=[]) 0 0 T.one215 rfl rfl hor1 sE rfl rfl) ?_
   refine aB 1 [] ?_
   refine aO (gD rfl rfl sE) ?_
   refine aO (kF rfl T.u215 rfl sE) ?_
   refine aO (rV rfl rfl) ?_
   refine gX (α:=U32) T.sl123 ?_
   refine cU (z:=_) 0 T.size215 rfl rfl rfl sF sE rfl fun ho2=>?_
   refine aR 7 [] ?_
   have hhi:bits BinOp.or IntKind.u32 (r1[((i:Int)+((32*d+s:Nat):Int) / 32+1).toNat]?.getD default).v ((la[(i:Int).toNat]?.getD default).v*((2 ^ s:Nat):Int) / 4294967296)=(la[(i:Int).toNat]?.getD default).v*((2 ^ s:Nat):Int) / 4294967296:=by
    rw [show ((i:Int)+((32*d+s:Nat):Int) / 32+1).toNat=i+d+1 by omega,show (r1[i+d+1]?.getD default).v=0 by simpa only [lg,aE] using hz1]
    rw [Lt 0 _ 0 sN sE sN (Int.emod_one _),jV]
   obtain ⟨r2,hr2⟩:∃ r2,r2=r1.set (i+d+1) (⟨(la[(i:Int).toNat]?.getD default).v*((2 ^ s:Nat):Int) / 4294967296⟩:U32):=⟨_,rfl⟩
   refine fY 0 (Row 215 r2 []) rfl ?_ ?_
   · show Row 215 (r1.set ((i:Int)+((32*d+s:Nat):Int) / 32+1).toNat ⟨bits BinOp.or IntKind.u32 (r1[((i:Int)+((32*d+s:Nat):Int) / 32+1).toNat]?.getD default).v ((la[(i:Int).toNat]?.getD default).v*((2 ^ s:Nat):Int) / 4294967296)⟩) []=_
     rw [hhi,show ((i:Int)+((32*d+s:Nat):Int) / 32+1).toNat=i+d+1 by omega,hr2]
   have hr2N:r2.length=N:=by rw [hr2,aG];exact hr1N
   refine cN 6 rfl (show _=Value.slice (some ⟨b1,0,none⟩) r2.length N by rw [hr2N,hrN]) ?_
   have hlt32:=(yP (s:=s) sE)
   refine cL ((i+1,r2)) ?_ ?_
   · refine ⟨by omega,hr2N,by rw [hr2];exact tT hd1 _ ⟨hpt.2.1,by omega⟩,?_,?_,?_⟩
     · rw [hr2,hr1]
       exact LN sE (hz _ sE) hv rfl rfl
     · rw [show i+1+d=i+d+1 by omega,hr2,Ge sE]
       exact hpt.2.2.1
     intro k hk
     rw [hr2,yO sE,hr1,yO sE]
     exact hz k sE
   show la.length - (i+1)<la.length - i
   omega
 rw [tO hia] at hv
 refine aJ 15 [0] ?_
 refine gB 0 rfl hor fun G9 hle9 hA=>?_
 refine bX 1 rfl (Mf _ _ _ _ sF sE tJ) fun v1 G1 Ho1 hle1 hp=>?_
 obtain ⟨ta1,tm1,rfl,hta1,hte1,htr1,htl1,rfl,rfl⟩:=hp
 refine aR 5 [] ?_
 refine gR ?_
 exact ⟨_,rfl,nP hta1 hte1 htr1 hdr hv sE,rfl⟩
theorem di (G:Imm) (a:Option Addr) (ca:Nat) (la:List U32) (s:Nat) (ha:Arr G a la) (da:Lims la) (h1:la.length≤1073741824) (hca:la.length≤ca) (hs:s<32) :
 Does Tryz.prog 252 [.slice a la.length ca,.int .i64 (s:Int)] G [] (fun v G' Ho=>∃ r,v=.tuple #[r,.int .i64 0]∧Nat32 G' r (sI la / ((2 ^ s:Nat):Int)) la.length∧Ho=[]):=by
 refine D0 Tryz.func252 Tryz.ntmps252 fun w=>?_
 have ed:(s:Int) / 32=0:=sE
 have es:(s:Int) % 32=(s:Int):=sE
 have hP:0<((2 ^ s:Nat):Int):=(yP sE).choose_spec.2.2
 refine aJ 19 [0] ?_
 refine bX 0 rfl (Mf _ _ _ _ sF sE tJ) fun v1 G1 Ho1 hle1 hp=>?_
 obtain ⟨ta1,tm1,rfl,hta1,hte1,htr1,htl1,rfl,rfl⟩:=hp
 refine aL 7 [] ?_
 refine aO (rB rfl rfl sE) ?_
 refine aZ 5 [] ?_
 refine cT (fun hc1=>?_) fun hc1=>?_
 refine bE 8 [] ?_
 refine gR ?_
 rotate_left
 refine aJ 6 [] ?_
 refine aO (rB rfl rfl sE) ?_
 refine aO (DU T.sl123 rfl rfl sE sE) ?_
 refine aL 6 [] ?_
 refine aO (mU rfl rfl sE) ?_
 refine aL 7 [] ?_
 refine fV (α:=U32) 0 rfl T.sl123 T.el215 rfl rfl sE sE fun b1=>?_
 refine aZ 12 [] ?_
 rotate_left
 · have hz:tm1=[]:=dT sE
   have hv0:sI la=0:=by rw [←wN hte1 htr1,hz,tV]
   refine ⟨_,rfl,⟨none,[],rfl,kE _,Lims.nil,Top.nil,?_,aM _⟩,rfl⟩
   rw [hv0,Int.zero_ediv,tV]
 have dm:=wF hte1 da
 have hta2:Arr G1 (subA ta1 tm1.length 0 1) tm1:=by
  have h2:=Hw (c:=tm1.length) (sz:=1) hta1 tm1.length
  rw [tO (aH _)] at h2
  exact h2
 obtain ⟨tb,htb⟩:∃ tb,tb=subA ta1 tm1.length 0 1:=⟨_,rfl⟩
 rw [←htb] at hta2
 obtain ⟨N,hN⟩:∃ N,N=tm1.length:=⟨_,rfl⟩
 have hM:(((tm1.length - ((s:Int) / 32).toNat:Nat):Int)).toNat=N:=sE
 rw [hM]
 have hown:∀ r:List U32,r.length=N→OwnA (some ⟨b1,0,none⟩) N r []:=fun r hr=>.inr ⟨b1,rfl,by rw [hr];rfl,by omega,by simp only [maxLen];omega⟩
 refine iI 7 rfl (show _=Value.slice (some ⟨b1,0,none⟩) (List.replicate N (default:U32)).length N by rw [aI]) ?_
 refine iI 6 rfl (show _=Value.int .i64 (s:Int) by rw [es]) ?_
 refine iI 0 rfl (show _=Value.slice tb tm1.length tm1.length by rw [ed,htb];rfl) ?_
 refine iI 29 rfl (show _=Value.slice tb tm1.length tm1.length by rw [ed,htb];rfl) ?_
 refine iI 30 rfl (show _=Value.int .i64 (tm1.length:Int) by rw [ed];rfl) ?_
 refine gY (ι:=Nat×List U32) (fun (i,r)=>([(31,.int .i64 (i:Int)),(7,.slice (some ⟨b1,0,none⟩) r.length N),(30,.int .i64 (tm1.length:Int)),(29,.slice tb (List.length tm1) (List.length tm1)),(0,.slice tb (List.length tm1) (List.length tm1)),(6,.int .i64 (↑s:Int)),(5,.int .i64 0),(4,.slice none 0 0)],[(0,some b1,Row 215 r [])])) (fun (i,r)=>i≤tm1.length∧r.length=N∧Lims r∧((2 ^ s:Nat):Int)*sI (r.take i)+lg tm1 0 % ((2 ^ s:Nat):Int)=sI (tm1.take i)+pb i*(lg tm1 i % ((2 ^ s:Nat):Int))) (fun (i,r)=>tm1.length - i) ((0,List.replicate N (default:U32))) (⟨aM _,aI,nH N,by rw [cM,cM,tV,bL,Mk,cY]⟩) fun ⟨i,r⟩=>fun hk=>?_
 obtain ⟨hi,hrN,hdr,hv⟩:=hk
 have hor:=hown r hrN
 rcases aK i tm1.length with hia | hia
 · have hx:0≤(tm1[(i:Int).toNat]?.getD default).v∧(tm1[(i:Int).toNat]?.getD default).v<4294967296:=Bf dm hia
   have ex:(tm1[(i:Int).toNat]?.getD default).v=lg tm1 i:=rfl
   have ex1:(tm1[((i:Int)+1).toNat]?.getD default).v=lg tm1 (i+1):=by unfold lg;rw [show ((i:Int)+1).toNat=((i+1:Nat):Int).toNat by omega]
   have hy:0≤(tm1[((i:Int)+1).toNat]?.getD default).v∧(tm1[((i:Int)+1).toNat]?.getD default).v<4294967296:=by rw [ex1];exact vG dm _
   by_cases hib:i+1<tm1.length
   · refine aJ 14 [1] ?_
     refine fP (α:=U32) T.sl123 ?_
     refine iY 0 T.one215 ?_
     refine aL 7 [] ?_
     refine aO (dI rfl T.u214 rfl sE) ?_
     refine aL 19 [1] ?_
     refine fP (α:=U32) T.sl123 ?_
     refine eG rfl (cJ T.one215 rfl (iC sF sE 0 rfl rfl)) ?_
     refine aO (dI rfl T.u214 rfl sE) ?_
     refine aO (rI rfl rfl sE) ?_
     refine aO (GY rfl rfl sE sE) ?_
     refine aL 8 [] ?_
     refine aO (EA rfl rfl sE sE) ?_
     refine aO (iJ rfl T.u215 rfl) ?_
     refine eG rfl (dO (α:=U32) T.sl123 rfl rfl sF sE) ?_
     refine cU (z:=_) 0 T.size215 rfl rfl rfl sF sE rfl fun ho1=>?_
     refine aR 7 [] ?_
     obtain ⟨out,hout⟩:∃ out,out=((tm1[((i:Int)+1).toNat]?.getD default).v*4294967296+(tm1[(i:Int).toNat]?.getD default).v) / ((2 ^ s:Nat):Int) % 4294967296:=⟨_,rfl⟩
     have hpart:((2 ^ s:Nat):Int)*out=4294967296*(lg tm1 (i+1) % ((2 ^ s:Nat):Int))+lg tm1 i - lg tm1 i % ((2 ^ s:Nat):Int):=by
      rw [hout,ex,ex1];exact Ye sE (vG dm i) (vG dm (i+1))
     refine fY 0 (Row 215 (r.set i (⟨out⟩:U32)) []) rfl (by rw [hout,aE]) ?_
     refine cN 7 rfl (show _=Value.slice (some ⟨b1,0,none⟩) (r.set i (⟨out⟩:U32)).length N by rw [aG]) ?_
     refine cL ((i+1,r.set i (⟨out⟩:U32))) ?_ ?_
     · exact ⟨by omega,by rw [aG];exact hrN,tT hdr _ (by rw [hout];exact Fp _),Yf sE hv hpart⟩
     show tm1.length - (i+1)<tm1.length - i
     omega
   have hz0:=Dv (show tm1.length≤i+1 by omega)
   refine aJ 14 [1] ?_
   refine fP (α:=U32) T.sl123 ?_
   refine iY 0 T.one215 ?_
   refine aL 7 [] ?_
   refine aO (dI rfl T.u214 rfl sE) ?_
   refine aL 21 [0] ?_
   refine aO (EA rfl rfl sE sE) ?_
   refine aO (iJ rfl T.u215 rfl) ?_
   refine gX (α:=U32) T.sl123 ?_
   refine cU (z:=_) 0 T.size215 rfl rfl rfl sF sE rfl fun ho1=>?_
   refine aR 7 [] ?_
   obtain ⟨out,hout⟩:∃ out,out=(tm1[(i:Int).toNat]?.getD default).v / ((2 ^ s:Nat):Int) % 4294967296:=⟨_,rfl⟩
   have hpart:((2 ^ s:Nat):Int)*out=4294967296*(lg tm1 (i+1) % ((2 ^ s:Nat):Int))+lg tm1 i - lg tm1 i % ((2 ^ s:Nat):Int):=by
    rw [hout,show (tm1[(i:Int).toNat]?.getD default).v=lg tm1 (i+1)*4294967296+lg tm1 i by rw [hz0,dV,jV];rfl];exact Ye sE (vG dm i) (vG dm (i+1))
   refine fY 0 (Row 215 (r.set i (⟨out⟩:U32)) []) rfl (by rw [hout,aE]) ?_
   refine cN 7 rfl (show _=Value.slice (some ⟨b1,0,none⟩) (r.set i (⟨out⟩:U32)).length N by rw [aG]) ?_
   refine cL ((i+1,r.set i (⟨out⟩:U32))) ?_ ?_
   · exact ⟨by omega,by rw [aG];exact hrN,tT hdr _ (by rw [hout];exact Fp _),Yf sE hv hpart⟩
   show tm1.length - (i+1)<tm1.length - i
   omega
 have hii:i=tm1.length:=sE
 subst hii
 have hval:=RU hP sE hv
 refine aJ 15 [0] ?_
 refine gB 0 rfl hor fun G9 hle9 hA=>?_
 refine bX 1 rfl (Mf _ _ _ _ sF sE tJ) fun v2 G2 Ho2 hle2 hp=>?_
 obtain ⟨ta2,tm2,rfl,hta2,hte2,htr2,htl2,rfl,rfl⟩:=hp
 refine aR 5 [] ?_
 refine gR ?_
 rw [wN hte1 htr1] at hval
 exact ⟨_,rfl,nP hta2 hte2 htr2 hdr hval sE,rfl⟩
end
end Go.Proofs.YtfdcckcadfhpeaaGreatDoor
namespace Go.Sl
open Go
section
variable {P:Program} {ops:Array Oper} {rest:List Oper} {B:Bs} {e:Env} {D:List Deferred} {H:Hp} {G:Imm} {K:Act→World→Prop}
 {ty:TypeId} {pos:String} {after:Array Edge} {d:Nat} {α:Type} [Cells α]
theorem Re {w:World} (hw:HoldH H G w) {T E bytes:Nat} {zs:List Value} (hT:sW P T E (Cells.sz α)) (hE:ElemOf P E (Cells.sz α) bytes zs) {a ad:Option Addr} {c2:Nat} {xs ys:List α}
 (hA:Src H G a xs) (hx0:0<xs.length) (hsrc:Src H G ad ys) (hy0:0<ys.length) (hb:(xs.length+ys.length)*bytes≤140737488355328) (hl:xs.length+ys.length≤maxLen) :
 ∃ c' junk' w',(Builtin.append_ #[T,T] ty #[.slice a xs.length xs.length,.slice ad ys.length c2]).run P w=.ok (.slice (some ⟨w.heap.size,0,none⟩) (xs++ys).length c') w'∧OwnA (some ⟨w.heap.size,0,none⟩) c' (xs++ys) junk'∧
  Upd (fun _=>False) w w'∧w'.heap.size=w.heap.size+1∧w'.heap[w.heap.size]?=some (Row E (xs++ys) junk'):=by
 obtain ⟨i,z,hi,hz1,hz2,hs,hby,hzl,hsz⟩:=hE
 have hm63:xs.length+ys.length≤9223372036854775807:=by simp only [maxLen] at hl;omega
 have hlen:(xs++ys).length=xs.length+ys.length:=aC
 have hyl:(sY ys).length=ys.length*i.size:=by rw [sV,hs]
 have hxl:(sY xs).length=xs.length*i.size:=by rw [sV,hs]
 have junkLen:∀ k,(Builtin.zeroCells z.cells k).toList.length=k*Cells.sz α:=fun k=>by
  rw [oG,size_zeroCells,hz2];simp [hzl]
 have fresh:∀ old,old<xs.length+ys.length→∃ junk',OwnA (some ⟨w.heap.size,0,none⟩) (grownCap w (xs.length+ys.length) old E) (xs++ys) junk'∧
  (w.drew.alloc (.cells ((sY xs).toArray++(sY ys).toArray++Builtin.zeroCells z.cells (grownCap w (xs.length+ys.length) old E - (xs.length+ys.length))) E)).heap[w.heap.size]?=some (Row E (xs++ys) junk'):=fun old hold=>by
  have hge:=grownCap_ge w (xs.length+ys.length) old E
  have hcm:grownCap w (xs.length+ys.length) old E≤maxLen:=grownCap_le_maxLen w _ old E hl
  refine ⟨(Builtin.zeroCells z.cells (grownCap w (xs.length+ys.length) old E - (xs.length+ys.length))).toList,.inr ⟨_,rfl,?_,by rw [hlen];exact hge,hcm⟩,?_⟩
  · rw [junkLen,hlen,←iS];congr 1;omega
  rw [show w.heap.size=w.drew.heap.size from rfl,Jm]
  congr 1
  simp [Row,vD]
 have hupd:∀ o,Upd (fun _=>False) w (w.drew.alloc o):=fun o=>(mI _ w).drew.alloc o
 rcases hA w hw with ⟨_,h0⟩ | ⟨ax,rfl,hcell⟩
 · rw [h0] at hx0;simp at hx0
 rcases hsrc w hw with ⟨_,h0⟩ | ⟨src,rfl,hsr⟩
 · rw [h0] at hy0;simp at hy0
 have hr:=run_append_grow (P:=P) w T ty E i z hT.1 hi hz1 ax xs.length xs.length (sY xs) hxl hcell src ys.length c2 (sY ys) hyl hsr sE sE (growslice_fits sE (by rw [hby];exact hb))
 obtain ⟨junk',h1,h2⟩:=fresh xs.length sE
 exact ⟨_,junk',_,by rw [hlen];exact hr,h1,hupd _,by simp,h2⟩
theorem Uu {s x:Operand} {T E bytes:Nat} {zs:List Value} {a ad:Option Addr} {c2:Nat} {xs ys:List α} (t:Nat) (hn:Nat.ble (d+1) B.n=true) (hT:sW P T E (Cells.sz α)) (hE:ElemOf P E (Cells.sz α) bytes zs)
 (hs:e.ev s=some (.slice a xs.length xs.length)) (hx:e.ev x=some (.slice ad ys.length c2)) (hA:Src H G a xs) (hx0:0<xs.length) (hsrc:Src H G ad ys) (hy0:0<ys.length)
 (hb:(xs.length+ys.length)*bytes≤140737488355328) (hl:xs.length+ys.length≤maxLen)
 (h:∀ b c' junk',OwnA (some ⟨b,0,none⟩) c' (xs++ys) junk'→Wl P ops rest B ⟨(d,.slice (some ⟨b,0,none⟩) (xs++ys).length c') :: e,D,(t,some b,Row E (xs++ys) junk') :: H,G⟩ K) :
 Wl P ops (⟨some d,.call { callee:=.builtin .append,args:=#[s,x],argTypes:=#[T,T] },ty,pos,after,none⟩ :: rest) B ⟨e,D,H,G⟩ K:=by
 intro ac w hh
 obtain ⟨c',junk',w',hrun,ho',hu,hsz,hbk⟩:=Re (c2:=c2) (ty:=ty) hh.mem hT hE hA hx0 hsrc hy0 hb hl
 unfold tF
 rw [aF (by simp [Region.wanted])]
 unfold De
 have hex:(execOp ac.eval ⟨some d,.call { callee:=.builtin .append,args:=#[s,x],argTypes:=#[T,T] },ty,pos,after,none⟩).run P w=.ok (.value (.slice (some ⟨w.heap.size,0,none⟩) (xs++ys).length c')) w':=by
  simp only [execOp,resolve,invoke,builtin,dB,dS,bM,rZ,iH,pY,hh.eval hs,hh.eval hx,hrun]
 rw [hex]
 exact h _ c' junk' ho' _ _ (Hold.put (hh.ownNew t hu hsz hbk) hn _)
end
end Go.Sl
namespace Go.Proofs.YtfdcckcadfhpeaaGreatDoor
open Go Go.Sl
theorem Ab {l:List U32} (h:Lims l) (k:Nat):Lims (l.drop k):=fun d hd=>h d (List.mem_of_mem_drop hd)
theorem Fq:∀ (f x:Nat),0<x→x<2 ^ f→1≤Lib.bitLenAux f x∧Lib.bitLenAux f x≤f∧2 ^ (Lib.bitLenAux f x - 1)≤x∧x<2 ^ Lib.bitLenAux f x
 | 0,x,h0,h1=>by simp at h1;omega
 | f+1,x,h0,h1=>by
   unfold Lib.bitLenAux
   rw [aD (by omega)]
   by_cases h2:x / 2=0
   · have hx:x=1:=sE
     subst hx
     have:Lib.bitLenAux f (1 / 2)=0:=by cases f <;> simp [Lib.bitLenAux]
     rw [this];simp
   have ih:=Fq f (x / 2) sE (by rw [pW] at h1;omega)
   obtain ⟨a1,a2,a3,a4⟩:=ih
   refine ⟨by omega,by omega,?_,?_⟩
   · rw [kG,←Nat.sub_add_cancel a1,pW];omega
   rw [Nat.add_comm 1,pW];omega
theorem HC {x:Int} (h0:0<x) (h1:x<4294967296):∃ s:Nat,s<32∧32 - (Lib.bitLen x.toNat:Int)=(s:Int)∧2147483648≤((2 ^ s:Nat):Int)*x∧((2 ^ s:Nat):Int)*(x+1)≤4294967296:=by
 have hb:=Fq 64 x.toNat sE (by have:(2:Nat) ^ 64=18446744073709551616:=sN;omega)
 have hle:=Lib.bitLen_le x.toNat 32 sE sE
 unfold Lib.bitLen at hle ⊢
 generalize Lib.bitLenAux 64 x.toNat=L at *
 obtain ⟨b1,b2,b3,b4⟩:=hb
 refine ⟨32 - L,by omega,by omega,?_,?_⟩
 · have e:2 ^ (32 - L)*2 ^ (L - 1)=2147483648:=by
    rw [←mP,show 32 - L+(L - 1)=31 by omega]
   have h2:=oD (2 ^ (32 - L)) b3
   rw [e] at h2
   have h3:((2 ^ (32 - L):Nat):Int)*x=((2 ^ (32 - L)*x.toNat:Nat):Int):=by rw [jQ,cS sE]
   rw [h3];omega
 have e:2 ^ (32 - L)*2 ^ L=4294967296:=by
  rw [←mP,show 32 - L+L=32 by omega]
 have h2:=oD (2 ^ (32 - L)) (show x.toNat+1≤2 ^ L by omega)
 rw [e] at h2
 have h3:((2 ^ (32 - L):Nat):Int)*(x+1)=((2 ^ (32 - L)*(x.toNat+1):Nat):Int):=by rw [jQ,Int.natCast_add,cS sE];rfl
 rw [h3];omega
theorem LP {b v:List U32} {m:Nat} {P:Int} (hP:0<P) (hb:b.length=m+2) (db:Lims b) (dv:Lims v) (tv:Top v) (hx:2147483648≤P*lg b (m+1)) (hx2:P*(lg b (m+1)+1)≤4294967296) (hv:sI v=P*sI b):v.length=m+2∧2147483648≤lg v (m+1):=by
 have e1:=tX b (m+1)
 rw [tO (show b.length≤m+1+1 by omega)] at e1
 have h1:=vW (db.take (m+1))
 have h2:=tS (db.take (m+1))
 rw [bG,dG sE] at h1
 have hp:=xO (m+1)
 have up:sI v<pb (m+2):=by
  have f1:=Int.mul_lt_mul_of_pos_left (show sI b<pb (m+1)*(lg b (m+1)+1) by rw [cF,gH];omega) hP
  have f2:=bU hx2 (dW hp)
  rw [hv,show m+2=m+1+1 by omega,wY,cD 4294967296]
  rw [eO P] at f1
  omega
 have low:pb (m+1)*2147483648≤sI v:=by
  have f1:=bU (show pb (m+1)*lg b (m+1)≤sI b by omega) (dW hP)
  have f2:=bU hx (dW hp)
  rw [hv]
  rw [eO P] at f1
  omega
 have l1:=Xw dv tv up
 have l2:m+2≤v.length:=by
  rcases aK v.length (m+2) with h | h
  · have f1:=vW dv
    have f2:=Nu (show v.length≤m+1 by omega)
    omega
  exact h
 have hl:v.length=m+2:=sE
 refine ⟨hl,?_⟩
 have e2:=tX v (m+1)
 rw [tO (show v.length≤m+1+1 by omega)] at e2
 have h3:=vW (dv.take (m+1))
 rw [bG,dG sE] at h3
 rcases pZ (lg v (m+1)) 2147483648 with h | h
 · have f1:=bU (show lg v (m+1)+1≤2147483648 by omega) (dW hp)
   rw [cF,gH] at f1
   omega
 exact h
theorem Yg {x y:Int} (h:tY x y<0):x<y:=by
 unfold tY at h
 split at h
 · assumption
 split at h <;> omega
theorem LQ (R:List U32) (i n:Nat):R=R.take i++((R.drop i).take n++R.drop (i+n)):=by
 rw [←qR,fC,fC]
theorem HD {u v:List U32} (du:Lims u) (dv:Lims v) (tv:Top v) (h0:0<v.length) (hl:v.length≤u.length):sI ((u++[(default:U32)]).drop (u.length+1 - v.length))<sI v:=by
 rw [nR sE,uH,Dt]
 have h1:=vW (Ab du (u.length+1 - v.length))
 rw [gE,show u.length - (u.length+1 - v.length)=v.length - 1 by omega] at h1
 have h2:=Ml dv tv (fun e=>by rw [e] at h0;simp at h0)
 show sI (u.drop (u.length+1 - v.length))+pb _*0<_
 rw [bL];omega
theorem LR {R v:List U32} {i n:Nat} (dR:Lims R) (dv:Lims v) (hi:i<R.length) (hn:v.length=n) (hl:i+(n+1)≤R.length) (h:sI (R.drop (i+1))<sI v) :
 sI ((R.drop i).take (n+1))<4294967296*sI v∧sI (R.drop (i+(n+1)))=0:=by
 have e1:=wM hi
 have e2:=Ap (R.drop i) (show n+1≤(R.drop i).length by rw [gE];omega)
 rw [qR] at e2
 have h1:=vG dR i
 have h2:=vW dv
 rw [hn] at h2
 have h3:=tS (Ab dR (i+(n+1)))
 have h4:=tS ((Ab dR i).take (n+1))
 have h5:=tS (Ab dR (i+1))
 have hp:=xO (n+1)
 have h6:sI (R.drop (i+(n+1)))=0:=by
  rcases (show sI (R.drop (i+(n+1)))=0∨1≤sI (R.drop (i+(n+1))) by omega) with hz | hz
  · exact hz
  have f1:=bU hz (dW hp)
  rw [gH] at f1
  have f2:=wY n
  omega
 refine ⟨?_,h6⟩
 rw [h6,bL] at e2
 omega
theorem RV {a b q R P:Int} (hP:0<P) (h:P*a=q*(P*b)+R) (h0:0≤R) (h1:R<P*b):R / P=a % b∧q=a / b∧0<b:=by
 have e:R=P*(a - q*b):=by rw [kO,eO P q];omega
 have e1:R / P=a - q*b:=by rw [e,mJ _ (oL hP)]
 have l0:0≤a - q*b:=by
  rw [e] at h0
  exact Int.le_of_mul_le_mul_left (by rw [bL];exact h0) hP
 have l1:a - q*b<b:=by
  rw [e] at h1
  exact Int.lt_of_mul_lt_mul_left h1 (dW hP)
 have hb:0<b:=sE
 have:=(qS (a:=a) (b:=b) (r:=a - q*b) (q:=q) hb).2 ⟨by rw [cD b q];omega,l0,l1⟩
 exact ⟨e1.trans this.2.symm,this.1.symm,hb⟩
theorem Dx {G:Imm} {v:Value} {z:Int} {n:Nat} {lb:List U32} (h:Nat32 G v z n) (db:Lims lb) (hz:z<sI lb):Nat32 G v z lb.length:=by
 obtain ⟨b,m,h1,h2,h3,h4,h5,h6⟩:=h
 refine ⟨b,m,h1,h2,h3,h4,h5,?_⟩
 rcases aK lb.length m.length with h7 | h7
 · have:=zA db h3 h4 h7;omega
 exact h7
theorem dj (G:Imm) (x:Int) (h0:0≤x) (h1:x≤4294967295):Does Tryz.prog 249 [.int .u32 x] G [] (fun v G' Ho=>v=.int .i64 (32 - (Lib.bitLen x.toNat:Int))∧G'=G∧Ho=[]):=
 Nx fun w=>Tryz.bits_LeadingZeros32 x w h0 h1
end Go.Proofs.YtfdcckcadfhpeaaGreatDoor
end
