/- uK of the proof (part 5): what the rows' text needs of the texts that lead to it. -/
import Derived.Test.YtngphgeghfdjbaaGreatDoorMBd
set_option linter.unusedVariables false
set_option linter.unusedSimpArgs false
set_option linter.unusedSectionVars false
set_option maxHeartbeats 4000000
set_option maxRecDepth 100000
namespace Go.Proofs.YtngphgeghfdjbaaGreatDoor
open Go Go.Sl
section
variable {B:Bs} {e:Env} {D:List Deferred} {H:Hp} {G:Imm}
theorem retagH {a:Act} {w:World} (hh:Hold B ⟨e,D,H,G⟩ a w) (t t':Nat) {k:Option Nat} {o:Obj} (ht:H.get t=some (k,o)) (hn:t≠t') (hk:H.get t'=none∨True):Hold B ⟨e,D,(t',k,o) :: (t,none,o) :: H,G⟩ a w:=by
 have key:∀ i b o',Hp.get ((t',k,o) :: (t,none,o) :: H) i=some (some b,o')→(i=t'∧H.get t=some (some b,o'))∨(i≠t'∧i≠t∧H.get i=some (some b,o')):=fun i b o' hx=>by
  rw [bU] at hx
  split at hx
  · rename_i hi;left;refine ⟨hi.symm,?_⟩;rw [ht];exact hx
  rename_i hi
  rw [bU] at hx
  split at hx
  · simp at hx
  rename_i hi2;exact .inr ⟨fun h=>hi h.symm,fun h=>hi2 h.symm,hx⟩
 refine ⟨hh.size,hh.defers,hh.env,⟨?_,?_,hh.mem.imm,?_⟩,hh.upd,?_,hh.le,hh.new⟩
 · intro i b o' hx
   rcases key i b o' hx with ⟨_,h⟩ | ⟨_,_,h⟩
   · exact hh.mem.own _ b o' h
   exact hh.mem.own _ b o' h
 · intro i i' b o1 o2 hx hy
   rcases key i b o1 hx with ⟨h1,h2⟩ | ⟨h1,h1',h2⟩ <;> rcases key i' b o2 hy with ⟨h3,h4⟩ | ⟨h3,h3',h4⟩
   · rw [h1,h3]
   · exact absurd (hh.mem.one _ _ b _ _ h2 h4).symm h3'
   · exact absurd (hh.mem.one _ _ b _ _ h2 h4) h1'
   exact hh.mem.one _ _ b _ _ h2 h4
 · intro i b o' hx
   rcases key i b o' hx with ⟨_,h⟩ | ⟨_,_,h⟩
   · exact hh.mem.off _ b o' h
   exact hh.mem.off _ b o' h
 intro i b o' hx
 rcases key i b o' hx with ⟨_,h⟩ | ⟨_,_,h⟩
 · exact hh.mine _ b o' h
 exact hh.mine _ b o' h
theorem Ar.retag {x:Exit} {Q:Exit→Act→World→Prop} (t t':Nat) {k:Option Nat} {o:Obj} (ht:H.get t=some (k,o)) (hn:Nat.beq t t'=false) (h:Ar Q x B ⟨e,D,(t',k,o) :: (t,none,o) :: H,G⟩):Ar Q x B ⟨e,D,H,G⟩:=
 fun a w hh=>h a w (retagH hh t t' ht (fun e=>by subst e;simp at hn) (.inr trivial))
end
def QN (G:Imm) (la lb:List U32) (v:Value):Prop:=∃ (qa ra:Option Addr) (qc rc:Nat) (lq lr:List U32),v=.tuple #[.slice qa lq.length qc,.slice ra lr.length rc]∧Arr G qa lq∧Arr G ra lr∧Digs lq∧Digs lr∧
 sZ la=sZ lq*sZ lb+sZ lr∧sZ lr<sZ lb∧lq.length≤qc∧lr.length≤rc∧lq.length≤la.length∧lr.length≤lb.length
theorem YW (G:Imm) (a b:Option Addr) (ca cb:Nat) (la lb:List U32) (ha:Arr G a la) (hb:Arr G b lb) (da:Digs la) (db:Digs lb) (tb:Top lb) (h1:la.length≤536870912) (h2:lb.length≤536870912) (hB:0<sZ lb) :
 Does Tryz.prog 105 [.slice a la.length ca,.slice b lb.length cb] G [] (fun v G' Ho=>QN G' la lb v∧Ho=[]):=by
 have key:Does Tryz.prog 105 [.slice a la.length ca,.slice b lb.length cb] G [] (fun v G' Ho=>HR G' la lb v∧Ho=[]):=by
  by_cases h:lb.length=1
  · exact TJ G a b ca cb la lb ha hb da db tb h1 h
  exact TK G a b ca cb la lb ha hb da db tb h1 h2 h hB
 refine key.mono fun v G' Ho _ ⟨⟨qa,ra,qc,rc,lq,lr,q1,q2,q3,q4,q5,q6,q7,q8,q9,q10,q11,q12⟩,q13⟩=>?_
 exact ⟨⟨qa,ra,qc,rc,lq,lr,q1,q2,q3,q4,q6,q8,q9,q10,q11,q12,xY db q6 q7 (bM q9)⟩,q13⟩
theorem Num.len {G:Imm} {x:IV} {z:Int} (h:Num G x z) {m:Nat} (hz:(z.natAbs:Int)<pw m):x.n≤m:=by
 obtain ⟨l,h1,_,_,h4⟩:=h
 rw [←h1];exact h4.len hz
abbrev lN:=@Num.len
theorem NK (G:Imm) (x y:IV) (zx zy:Int) (hx:Num G x zx) (hy:Num G y zy) (h1:x.n≤1073741824) (h2:y.n≤1073741824) :
 Does Tryz.prog 160 [.agg (Cells.enc x).toArray,.agg (Cells.enc y).toArray] G [] (fun v G' Ho=>∃ r:IV,v=.agg (Cells.enc r).toArray∧Num G' r (zx - zy)∧Ho=[]):=by
 obtain ⟨n1,a,k1,ca⟩:=x
 obtain ⟨n2,b,k2,cb⟩:=y
 obtain ⟨la,hl,hlc,hA,hI⟩:=hx
 obtain ⟨lb,hl',hlc',hA',hI'⟩:=hy
 simp only at hl hlc hA hI hl' hlc' hA' hI' h1 h2
 subst hl hl'
 exact YN G n1 n2 a b ca cb la lb zx zy hA hA' hI hI' h1 h2 hlc'
theorem HZ (z:Int):((Ck z).natAbs:Int)<pw 1:=by have:=Xd z;have:pw 1=65536:=tF;omega
theorem IA {l:List U32} {n:Nat} (h:Am l n) (hd:Digs l) (hn:0<n):0<sZ l:=by
 have h1:=h.len
 have:=Yy (hd.take n) h.top (fun e=>by rw [e] at h1;simp at h1;omega)
 rwa [h.val] at this
theorem DA {l:List U32} (h:Am l 0):sZ l=0:=by
 have:=h.val
 rw [bN,vD] at this
 exact this.symm
theorem IB {n1:Bool} {lr1:List U32} {tm:Nat} {q x y:Int} (hx:x=q*y+(if n1=true then -sZ lr1 else sZ lr1)) (hy:y≠0) (hl:sZ lr1<y.natAbs) (h:(n1 && decide (0<tm))=true) (ht:Am lr1 tm) (hd:Digs lr1) :
 q - Ck y=x / y∧(if n1=true then -sZ lr1 else sZ lr1)+(y.natAbs:Int)=x % y:=by
 rw [aC,aT] at h
 have hp:=IA ht hd h.2
 have e:=h.1
 subst e
 rw [aR rfl] at hx ⊢
 exact Jm hy (Zf hx) sV sV
theorem DC {n1:Bool} {lr1:List U32} {tm:Nat} {q x y:Int} (hx:x=q*y+(if n1=true then -sZ lr1 else sZ lr1)) (hy:y≠0) (hl:sZ lr1<y.natAbs) (h:(n1 && decide (0<tm))=false) (ht:Am lr1 tm) (hd:Digs lr1) :
 q=x / y∧(if n1=true then -sZ lr1 else sZ lr1)=x % y:=by
 have hn:=uJ hd
 refine Jm hy hx ?_ ?_
 · cases n1 with
   | false=>rw [aL (by decide)];exact hn
   | true =>
     have h0:tm=0:=by
      rw [kK,dM] at h
      omega
     subst h0
     rw [aR rfl,DA ht]
     omega
 split <;> omega
section
attribute [local irreducible] sZ pw tQ p2
theorem YX (G:Imm) (n1 n2:Bool) (a b:Option Addr) (ca cb:Nat) (la lb:List U32) (x y:Int) (ha:Arr G a la) (hb:Arr G b lb) (hx:IsInt n1 la x) (hy:IsInt n2 lb y) (h1:la.length≤536870912) (h2:lb.length≤536870912) (hcb:lb.length≤cb) (hy0:y≠0) :
 Does Tryz.prog 114 [.agg #[.bool n1,.slice a la.length ca],.agg #[.bool n2,.slice b lb.length cb]] G [] (fun v G' Ho=>∃ q r:IV,v=.tuple #[.agg (Cells.enc q).toArray,.agg (Cells.enc r).toArray]∧Num G' q (x / y)∧Num G' r (x % y)∧Ho=[]):=by
 have da:=hx.digs
 have db:=hy.digs
 have tb:=hy.top
 have va:=hx.abs
 have vb:=hy.abs
 have hB:0<sZ lb:=sV
 refine D0 Tryz.func114 Tryz.ntmps114 fun w=>?_
 refine aK 2 [] ?_
 refine cV 0 fun b1=>?_
 refine cV 1 fun b2=>?_
 refine aQ 2 rfl T.zero93 fun b3=>?_
 refine aQ 3 rfl T.zero93 fun b4=>?_
 refine aJ 8 [0,1] ?_
 refine bV 4 rfl (YW _ _ _ _ _ _ _ sW sW sW sW sW sW sW sW) fun v1 G1 Ho1 hle1 hp=>?_
 obtain ⟨⟨qa1,ra1,qc1,rc1,lq1,lr1,rfl,hqa1,hra1,dq1,dr1,hvq1,hlt1,hqc1,hrc1,hql1,hrl1⟩,rfl⟩:=hp
 replace ha:=ha.up hle1
 replace hb:=hb.up hle1
 refine bJ 7 [] ?_
 refine rB (ι:=Nat×Nat×Nat×Nat) (fun (tn,tm,p,q)=>([(8,.pointer (some ⟨p,0,none⟩)),(9,.pointer (some ⟨q,0,none⟩)),(5,.pointer (some (Addr.mk b4 0 none))),(4,.pointer (some (Addr.mk b3 0 none))),(3,.pointer (some ⟨b2,0,none⟩))],[(60,some p,.cells #[.bool (decide (n1≠n2) && decide (0<tn)),.slice (subA qa1 qc1 0 1) tn qc1] 93),(61,some q,.cells #[.bool (n1 && decide (0<tm)),.slice (subA ra1 rc1 0 1) tm rc1] 93),(3,some b4,.cells #[.bool Bool.false,.slice none 0 0] 93),(2,some b3,.cells #[.bool Bool.false,.slice none 0 0] 93),(1,some b2,.cells #[.bool n2,.slice b (List.length lb) cb] 93),(0,some b1,.cells #[.bool n1,.slice a (List.length la) ca] 93)])) (fun (tn,tm,p,q)=>Am lq1 tn∧Am lr1 tm) ?_ fun ⟨tn,tm,p,q⟩=>fun (hk:Am lq1 tn∧Am lr1 tm)=>?_
 · refine eB [0,1,2,3] [] T.mixed [[0],[1,0],[2],[3,1]] ?_
   refine gD 4 [] rfl (Eh T.u4 rfl rfl) ?_
   refine eJ [[5],[7],[8,0],[9]] ?_
   refine Gm.o3 6 11 12 ?_ ?_ ?_
   refine bV 4 rfl (xE _ _ _ _ _ sW sV sW) fun v2 G2 Ho2 hle2 hp=>?_
   obtain ⟨tn2,rfl,htr2,rfl,rfl⟩:=hp
   refine dW ?_
   refine Gm.o3 10 11 12 ?_ ?_ ?_
   refine bV 4 rfl (xE _ _ _ _ _ sW sV sW) fun v3 G3 Ho3 hle3 hp=>?_
   obtain ⟨tn3,rfl,htr3,rfl,rfl⟩:=hp
   refine dW ?_
   refine pM 11 12 ?_ ?_
   refine aQ 4 rfl T.zero93 fun b5=>?_
   refine bT 12 ?_
   refine aQ 5 rfl T.zero93 fun b6=>?_
   refine bT 13 ?_
   refine aA 1 [4] ?_
   refine bT 14 ?_
   refine aA 1 [5] ?_
   refine fV ?_
   rotate_left
   refine aQ 4 rfl T.zero93 fun b5=>?_
   refine bT 11 ?_
   refine aQ 5 rfl T.zero93 fun b6=>?_
   refine bT 13 ?_
   refine aA 1 [5] ?_
   refine bT 14 ?_
   refine aA 1 [4] ?_
   refine fV ?_
   rotate_left
   refine aQ 4 rfl T.zero93 fun b5=>?_
   refine dW ?_
   refine pM 10 12 ?_ ?_
   refine bV 5 rfl (xE _ _ _ _ _ sW sV sW) fun v3 G3 Ho3 hle3 hp=>?_
   obtain ⟨tn3,rfl,htr3,rfl,rfl⟩:=hp
   refine bT 12 ?_
   refine aQ 5 rfl T.zero93 fun b6=>?_
   refine bT 13 ?_
   refine aA 1 [4] ?_
   refine bT 14 ?_
   refine aA 1 [5] ?_
   refine fV ?_
   rotate_left
   refine aQ 5 rfl T.zero93 fun b6=>?_
   refine bT 10 ?_
   refine bV 6 rfl (xE _ _ _ _ _ sW sV sW) fun v3 G3 Ho3 hle3 hp=>?_
   obtain ⟨tn3,rfl,htr3,rfl,rfl⟩:=hp
   refine bT 13 ?_
   refine aA 1 [4] ?_
   refine bT 14 ?_
   refine aA 1 [5] ?_
   refine fV ?_
   rotate_left
   refine aQ 4 rfl T.zero93 fun b5=>?_
   refine dW ?_
   refine pM 10 11 ?_ ?_
   refine bV 5 rfl (xE _ _ _ _ _ sW sV sW) fun v3 G3 Ho3 hle3 hp=>?_
   obtain ⟨tn3,rfl,htr3,rfl,rfl⟩:=hp
   refine bT 11 ?_
   refine aQ 5 rfl T.zero93 fun b6=>?_
   refine bT 13 ?_
   refine aA 1 [5] ?_
   refine bT 14 ?_
   refine aA 1 [4] ?_
   refine fV ?_
   rotate_left
   refine aQ 5 rfl T.zero93 fun b6=>?_
   refine bT 10 ?_
   refine bV 6 rfl (xE _ _ _ _ _ sW sV sW) fun v3 G3 Ho3 hle3 hp=>?_
   obtain ⟨tn3,rfl,htr3,rfl,rfl⟩:=hp
   refine bT 13 ?_
   refine aA 1 [5] ?_
   refine bT 14 ?_
   refine aA 1 [4] ?_
   refine fV ?_
   rotate_left
   refine aQ 4 rfl T.zero93 fun b5=>?_
   refine dW ?_
   refine pM 6 12 ?_ ?_
   refine bV 5 rfl (xE _ _ _ _ _ sW sV sW) fun v2 G2 Ho2 hle2 hp=>?_
   obtain ⟨tn2,rfl,htr2,rfl,rfl⟩:=hp
   refine dW ?_
   refine pM 10 12 ?_ ?_
   refine bV 5 rfl (xE _ _ _ _ _ sW sV sW) fun v3 G3 Ho3 hle3 hp=>?_
   obtain ⟨tn3,rfl,htr3,rfl,rfl⟩:=hp
   refine bT 12 ?_
   refine aQ 5 rfl T.zero93 fun b6=>?_
   refine bT 13 ?_
   refine aA 1 [4] ?_
   refine bT 14 ?_
   refine aA 1 [5] ?_
   refine fV ?_
   rotate_left
   refine aQ 5 rfl T.zero93 fun b6=>?_
   refine bT 10 ?_
   refine bV 6 rfl (xE _ _ _ _ _ sW sV sW) fun v3 G3 Ho3 hle3 hp=>?_
   obtain ⟨tn3,rfl,htr3,rfl,rfl⟩:=hp
   refine bT 13 ?_
   refine aA 1 [4] ?_
   refine bT 14 ?_
   refine aA 1 [5] ?_
   refine fV ?_
   rotate_left
   refine aQ 5 rfl T.zero93 fun b6=>?_
   refine bT 6 ?_
   refine bV 6 rfl (xE _ _ _ _ _ sW sV sW) fun v2 G2 Ho2 hle2 hp=>?_
   obtain ⟨tn2,rfl,htr2,rfl,rfl⟩:=hp
   refine bT 10 ?_
   refine bV 6 rfl (xE _ _ _ _ _ sW sV sW) fun v3 G3 Ho3 hle3 hp=>?_
   obtain ⟨tn3,rfl,htr3,rfl,rfl⟩:=hp
   refine bT 13 ?_
   refine aA 1 [4] ?_
   refine bT 14 ?_
   refine aA 1 [5] ?_
   refine fV ?_
   rotate_left
   refine aQ 4 rfl T.zero93 fun b5=>?_
   refine dW ?_
   refine pM 6 11 ?_ ?_
   refine bV 5 rfl (xE _ _ _ _ _ sW sV sW) fun v2 G2 Ho2 hle2 hp=>?_
   obtain ⟨tn2,rfl,htr2,rfl,rfl⟩:=hp
   refine dW ?_
   refine pM 10 11 ?_ ?_
   refine bV 5 rfl (xE _ _ _ _ _ sW sV sW) fun v3 G3 Ho3 hle3 hp=>?_
   obtain ⟨tn3,rfl,htr3,rfl,rfl⟩:=hp
   refine bT 11 ?_
   refine aQ 5 rfl T.zero93 fun b6=>?_
   refine bT 13 ?_
   refine aA 1 [5] ?_
   refine bT 14 ?_
   refine aA 1 [4] ?_
   refine fV ?_
   rotate_left
   refine aQ 5 rfl T.zero93 fun b6=>?_
   refine bT 10 ?_
   refine bV 6 rfl (xE _ _ _ _ _ sW sV sW) fun v3 G3 Ho3 hle3 hp=>?_
   obtain ⟨tn3,rfl,htr3,rfl,rfl⟩:=hp
   refine bT 13 ?_
   refine aA 1 [5] ?_
   refine bT 14 ?_
   refine aA 1 [4] ?_
   refine fV ?_
   rotate_left
   refine aQ 5 rfl T.zero93 fun b6=>?_
   refine bT 6 ?_
   refine bV 6 rfl (xE _ _ _ _ _ sW sV sW) fun v2 G2 Ho2 hle2 hp=>?_
   obtain ⟨tn2,rfl,htr2,rfl,rfl⟩:=hp
   refine bT 10 ?_
   refine bV 6 rfl (xE _ _ _ _ _ sW sV sW) fun v3 G3 Ho3 hle3 hp=>?_
   obtain ⟨tn3,rfl,htr3,rfl,rfl⟩:=hp
   refine bT 13 ?_
   refine aA 1 [5] ?_
   refine bT 14 ?_
   refine aA 1 [4] ?_
   refine fV ?_
   rotate_left
   all_goals first | (refine Ar.retag 4 60 rfl rfl (Ar.retag 5 61 rfl rfl (rH (tn2,tn3,b5,b6) ⟨htr2,htr3⟩ rfl ?_ ?_)) <;> (repeat (first | exact trivial | refine ⟨rfl,?_⟩));done) | (refine Ar.retag 5 60 rfl rfl (Ar.retag 4 61 rfl rfl (rH (tn2,tn3,b6,b5) ⟨htr2,htr3⟩ rfl ?_ ?_)) <;> (repeat (first | exact trivial | refine ⟨rfl,?_⟩));done)
 obtain ⟨htq,htm⟩:=hk
 have hlt:=wO db
 have hxy:=Tx hx.val hy.val hvq1
 have hQ0:=htq.num dq1 hqa1 hqc1 (decide (n1≠n2))
 have hR0:=htm.num dr1 hra1 hrc1 n1
 refine cF 7 [61] ?_
 refine rM rfl (fun hc1=>?_) fun hc1=>?_
 refine dT ?_
 refine eB [0,1,2,3,61,60] [(61,4)] T.mixed [[0,61],[1,1]] ?_
 refine fE 2 ?_
 refine bV 62 rfl (YM _ _ _ _ _ _ sW sW sV sW) fun v2 G2 Ho2 hle2 hp=>?_
 obtain ⟨nr2,rfl,hnr2,rfl,rfl⟩:=hp
 refine bT 3 ?_
 refine bV 62 rfl (Zj _ ⟨(n1 && decide (0<tm)),subA ra1 rc1 0 1,tm,rc1⟩ nr2 _ _ hR0 hnr2 (aO htm.1 sV) (aO (lN hnr2 (m:=lb.length) sV) sV)) fun v3 G3 Ho3 hle3 hp=>?_
 obtain ⟨rs3,rfl,hrs3,rfl⟩:=hp
 replace hqa1:=hqa1.up hle3
 replace hra1:=hra1.up hle3
 replace ha:=ha.up hle3
 replace hb:=hb.up hle3
 replace hQ0:=hQ0.up hle3
 replace hR0:=hR0.up hle3
 replace hnr2:=hnr2.up hle3
 refine bT 4 ?_
 refine aA 1 [61] ?_
 refine fV ?_
 refine cE ?_
 refine eB [0,1,2,3,60,61] [(60,5)] T.mixed [[0,60],[1,1]] ?_
 refine fE 2 ?_
 refine bW rfl (QI _ _ _ _ _ y sW sV) ?_
 refine bT 3 ?_
 refine bV 62 rfl (QJ _ _ (Ze y)) fun v4 G4 Ho4 hle4 hp=>?_
 obtain ⟨ro4,rfl,hro4,rfl⟩:=hp
 replace hrs3:=hrs3.up hle4
 replace hqa1:=hqa1.up hle4
 replace hra1:=hra1.up hle4
 replace ha:=ha.up hle4
 replace hb:=hb.up hle4
 replace hQ0:=hQ0.up hle4
 replace hR0:=hR0.up hle4
 replace hnr2:=hnr2.up hle4
 refine bT 4 ?_
 refine bV 62 rfl (NK _ ⟨(decide (n1≠n2) && decide (0<tn)),subA qa1 qc1 0 1,tn,qc1⟩ ro4 _ _ hQ0 hro4 (aO htq.1 sV) (aO (lN hro4 (m:=1) (HZ y)) sV)) fun v5 G5 Ho5 hle5 hp=>?_
 obtain ⟨rd5,rfl,hrd5,rfl⟩:=hp
 replace hro4:=hro4.up hle5
 replace hrs3:=hrs3.up hle5
 replace hqa1:=hqa1.up hle5
 replace hra1:=hra1.up hle5
 replace ha:=ha.up hle5
 replace hb:=hb.up hle5
 replace hQ0:=hQ0.up hle5
 replace hR0:=hR0.up hle5
 replace hnr2:=hnr2.up hle5
 refine bT 5 ?_
 refine aA 1 [60] ?_
 refine fV ?_
 refine oJ 2 [] ?_
 refine eB [0,1,2,3,61,60] [(3,3),(2,2)] T.mixed [[0,60],[1,61]] ?_
 refine fE 2 ?_
 refine aA 1 [2] ?_
 refine bT 3 ?_
 refine aA 1 [3] ?_
 refine fV ?_
 refine gZ 2 [] ?_
 rotate_left
 refine cF 3 [] ?_
 refine eB [0,1,2,3,61,60] [(3,3),(2,2)] T.mixed [[0,60],[1,61]] ?_
 refine fE 2 ?_
 refine aA 1 [2] ?_
 refine bT 3 ?_
 refine aA 1 [3] ?_
 refine fV ?_
 refine gZ 2 [] ?_
 rotate_left
 · refine iK (.inr rfl) (Ho:=[]) rfl (.agg 2 rfl rfl T.agg93) (.agg 3 rfl rfl T.agg93) trivial ?_
   have he:=IB hxy hy0 sV hc1 htm dr1
   refine ⟨rd5,rs3,rfl,?_,?_,rfl⟩
   · rw [←he.1];exact hrd5
   rw [←he.2];exact hrs3
 refine iK (.inr rfl) (Ho:=[]) rfl (.agg 2 rfl rfl T.agg93) (.agg 3 rfl rfl T.agg93) trivial ?_
 have he:=DC hxy hy0 sV hc1 htm dr1
 refine ⟨⟨(decide (n1≠n2) && decide (0<tn)),subA qa1 qc1 0 1,tn,qc1⟩,⟨(n1 && decide (0<tm)),subA ra1 rc1 0 1,tm,rc1⟩,rfl,?_,?_,rfl⟩
 · rw [←he.1];exact hQ0
 rw [←he.2];exact hR0
end
theorem Xh (G:Imm) (x y:IV) (zx zy:Int) (hx:Num G x zx) (hy:Num G y zy) (h1:x.n≤536870912) (h2:y.n≤536870912) (hy0:zy≠0) :
 Does Tryz.prog 114 [.agg (Cells.enc x).toArray,.agg (Cells.enc y).toArray] G [] (fun v G' Ho=>∃ q r:IV,v=.tuple #[.agg (Cells.enc q).toArray,.agg (Cells.enc r).toArray]∧Num G' q (zx / zy)∧Num G' r (zx % zy)∧Ho=[]):=by
 obtain ⟨n1,a,k1,ca⟩:=x
 obtain ⟨n2,b,k2,cb⟩:=y
 obtain ⟨la,hl,hlc,hA,hI⟩:=hx
 obtain ⟨lb,hl',hlc',hA',hI'⟩:=hy
 simp only at hl hlc hA hI hl' hlc' hA' hI' h1 h2
 subst hl hl'
 exact YX G n1 n2 a b ca cb la lb zx zy hA hA' hI hI' h1 h2 hlc' hy0
theorem Dm (G:Imm) (n:Int) (hn:-9223372036854775808≤n∧n≤9223372036854775807) :
 Does Tryz.prog 59 [.int .i64 n] G [] (fun v G' Ho=>∃ r:IV,v=.agg (Cells.enc r).toArray∧Num G' r n∧Ho=[]):=QJ G n hn
theorem Num.zero_iff {G:Imm} {x:IV} {z:Int} (h:Num G x z):x.n=0↔z=0:=by
 obtain ⟨l,h1,_,_,h4⟩:=h
 rw [←h1];exact h4.zero_iff
theorem IC (n:Nat):sZ ((List.replicate (n / 16+1) (default:U32)).set (n / 16) ⟨p2 (n % 16)⟩)=p2 n:=by
 rw [Ex _ _ _ Az]
 have h0:dg (List.replicate (n / 16+1) (default:U32)) (n / 16)=0:=by
  unfold dg
  rw [aF,fP]
  split <;> rfl
 rw [h0,show (default:U32)=⟨0⟩ from rfl,yW,Ud,jI,nB,←Bu,show 16*(n / 16)+n % 16=n by omega]
section
attribute [local irreducible] sZ pw tQ p2
theorem Uf (G:Imm) (x y:IV) (zx zy:Int) (hx:Num G x zx) (hy:Num G y zy) (h1:x.n≤536870912) (h2:y.n≤536870912) (hy0:zy≠0) :
 Does Tryz.prog 257 [.agg (Cells.enc x).toArray,.agg (Cells.enc y).toArray] G [] (fun v G' Ho=>∃ q:IV,v=.tuple #[.agg (Cells.enc q).toArray,.bool (decide (zx % zy=0))]∧Num G' q (if zx % zy=0 then zx / zy else 0)∧Ho=[]):=by
 refine D0 Tryz.func257 Tryz.ntmps257 fun w=>?_
 refine aK 2 [] ?_
 refine cV 0 fun b1=>?_
 refine cV 1 fun b2=>?_
 refine aQ 2 rfl T.zero93 fun b3=>?_
 refine aJ 7 [0,1] ?_
 refine bV 3 rfl (Xh _ _ _ _ _ hx hy h1 h2 hy0) fun v1 G1 Ho1 hle1 hp=>?_
 obtain ⟨q1,r1,rfl,hq1,hr1,rfl⟩:=hp
 replace hx:=hx.up hle1
 replace hy:=hy.up hle1
 refine aA 3 [] ?_
 refine aQ 3 rfl T.zero93 fun b4=>?_
 refine aQ 4 rfl T.zero93 fun b5=>?_
 refine bJ 13 [3,4,4] ?_
 refine dN (fun hc1=>?_) fun hc1=>?_
 refine aK 2 [] ?_
 refine aN (fB (cs:=[_,_]) T.st93 rfl rfl rfl) ?_
 refine aW 6 [2] ?_
 rotate_left
 refine bE 10 [3,2] ?_
 rotate_left
 · refine iK (.inr rfl) (Ho:=[]) rfl (.agg 2 rfl rfl T.agg93) (.tmp rfl) trivial ?_
   have h0:¬zx % zy=0:=fun e=>by have:=(Num.zero_iff hr1).2 e;omega
   refine ⟨⟨false,none,0,0⟩,by rw [bF h0];rfl,?_,rfl⟩
   rw [aL h0];exact Num.zero _
 refine iK (.inr rfl) (Ho:=[]) rfl (.agg 2 rfl rfl T.agg93) (.tmp rfl) trivial ?_
 have h0:zx % zy=0:=(Num.zero_iff hr1).1 sV
 refine ⟨q1,by rw [cL h0],?_,rfl⟩
 rw [aR h0];exact hq1
theorem YY (G:Imm) (n:Nat) (hn:n≤16777216) :
 Does Tryz.prog 115 [.int .i64 (n:Int)] G [] (fun v G' Ho=>∃ r:IV,v=.agg (Cells.enc r).toArray∧Num G' r (p2 n)∧Ho=[]):=by
 refine D0 Tryz.func115 Tryz.ntmps115 fun w=>?_
 refine aK 2 [] ?_
 refine aQ 0 rfl T.zero93 fun b1=>?_
 refine aJ 5 [] ?_
 refine aN (lX rfl rfl sV) ?_
 refine aA 1 [] ?_
 refine iC (α:=U32) 1 rfl T.sl87 T.el166 rfl rfl sV sV fun b2=>?_
 refine bJ 3 [] ?_
 obtain ⟨N,hN⟩:∃ N,N=n / 16+1:=⟨_,rfl⟩
 have hM:((n:Int) / 16+1).toNat=N:=sV
 rw [hM]
 have hown:∀ r:List U32,r.length=N→OwnA (some ⟨b2,0,none⟩) N r []:=fun r hr=>.inr ⟨b2,rfl,by rw [hr];rfl,by omega,by simp only [maxLen];omega⟩
 have hrl:(List.replicate N (default:U32)).length=N:=aE
 have hor:=hown _ hrl
 refine jE 3 rfl (show _=Value.slice (some ⟨b2,0,none⟩) (List.replicate N (default:U32)).length N by rw [aE]) ?_
 refine aK 4 [] ?_
 refine aN (lX rfl rfl sV) ?_
 refine aA 1 [] ?_
 refine aN (jO rfl rfl sV) ?_
 refine aN (Qy.shl rfl rfl sV) ?_
 refine fW (α:=U32) T.sl87 ?_
 refine eX (z:=_) 1 T.size166 rfl rfl rfl sW sV rfl fun ho1=>?_
 refine aJ 5 [] ?_
 have e3:(List.replicate N (default:U32)).set ((n:Int) / 16).toNat ⟨1*2 ^ min ((n:Int) % 16).toNat IntKind.u32.bits % 2 ^ IntKind.u32.bits⟩=(List.replicate (n / 16+1) (default:U32)).set (n / 16) ⟨p2 (n % 16)⟩:=by
  have h1:1*2 ^ min ((n:Int) % 16).toNat IntKind.u32.bits % 2 ^ IntKind.u32.bits=p2 (n % 16):=Zp
  rw [h1,hN,show ((n:Int) / 16).toNat=n / 16 by omega]
 rw [e3] at ho1 ⊢
 obtain ⟨r,hr⟩:∃ r,r=(List.replicate (n / 16+1) (default:U32)).set (n / 16) ⟨p2 (n % 16)⟩:=⟨_,rfl⟩
 rw [←hr] at ho1 ⊢
 have hrN:r.length=N:=by rw [hr,aH,aE,hN]
 have hv:sZ r=p2 n:=by rw [hr];exact IC n
 have hd:Digs r:=by rw [hr];exact zX (rQ _) _ ⟨bM (xG _),by have:=Zn (show n % 16≤15 by omega);rw [show p2 15=32768 by unfold p2;decide] at this;omega⟩
 have hcap:=ho1.le
 refine cR 1 rfl ho1 fun G9 hle9 hA=>?_
 refine kD 15 rfl (show _=Value.slice (some ⟨b2,0,none⟩) r.length N by rw [hrN,aE]) ?_
 refine bV 2 rfl (xE _ _ _ _ _ sW sV uU) fun v1 G1 Ho1 hle1 hp=>?_
 obtain ⟨tn1,rfl,htr1,rfl,rfl⟩:=hp
 refine aW 4 [0] ?_
 refine dL (.inr rfl) (Ho:=Hp.only _ []) rfl (.agg 0 rfl rfl T.agg93) (bK _ _) ?_
 refine ⟨⟨false && decide (0<tn1),subA (some ⟨b2,0,none⟩) N 0 1,tn1,N⟩,rfl,?_,rfl⟩
 have e:=htr1.num hd hA hcap false
 rw [aL (by decide),hv] at e
 exact e
end
theorem Hh {x y:Int} {k m:Nat} (hx:(x.natAbs:Int)<pw k) (hy:(y.natAbs:Int)<pw m):((x*y).natAbs:Int)<pw (k+m):=by
 rw [nC,Wv,cJ]
 have h1:=aY (bM hy) (show (0:Int)≤x.natAbs by omega)
 exact Int.lt_of_le_of_lt h1 (kR hx (wQ m))
def Jc (x:Int) (xs:List Int) (y:Int) (ys:List Int):List Int:=List.zipWith (fun a b=>x*a+y*b) xs ys
theorem Ug {x y:Int} {xs ys:List Int} (h:xs.length=ys.length):(Jc x xs y ys).length=xs.length:=by
 unfold Jc;rw [iP,h,oQ]
theorem DD {x y:Int} {xs ys:List Int} (h:xs.length=ys.length) {i:Nat} (hi:i<xs.length) :
 (Jc x xs y ys).take (i+1)=(Jc x xs y ys).take i++[x*(xs[((i:Nat):Int).toNat]?.getD 0)+y*(ys[((i:Nat):Int).toNat]?.getD 0)]:=by
 have h1:i<(Jc x xs y ys).length:=by rw [Ug h];exact hi
 rw [mY h1,aF,aB hi,aB (by omega:i<ys.length)]
 have h2:(Jc x xs y ys)[i]=x*xs[i]+y*ys[i]:=oE
 rw [h2];rfl
theorem ID {xs ys:List Int} (h:xs.length=ys.length) (he:∀ i:Nat,i<xs.length→xs[i]?.getD 0=ys[i]?.getD 0):xs=ys:=by
 refine jS h fun i h1 h2=>?_
 have:=he i h1
 rw [aB h1,aB h2] at this
 exact this
theorem Dn {x y:Int}:tQ x y=0↔x=y:=by
 unfold tQ
 split
 · omega
 split <;> omega
theorem Ri:(((1:Int)).natAbs:Int)<pw 1:=tF
theorem Zq:(((-1:Int)).natAbs:Int)<pw 1:=tF
theorem NL (k:Nat):(((0:Int)).natAbs:Int)<pw k:=wQ k
section
attribute [local irreducible] sZ pw tQ p2
theorem YZ (G:Imm) (a b:Option Addr) (ca cb:Nat) (la lb:List IV) (xs ys:List Int) (ha:Arr G a la) (hb:Arr G b lb) (hx:Nums G la xs) (hy:Nums G lb ys) (m:Nat) (hm:m≤1073741824) (bx:Go.Sl.Below m xs) (by':Go.Sl.Below m ys) (h1:la.length≤1099511627776) (h2:lb.length≤1099511627776) :
 Does Tryz.prog 139 [.slice a la.length ca,.slice b lb.length cb] G [] (fun v G' Ho=>v=.bool (decide (xs=ys))∧G'=G∧Ho=[]):=by
 have hxl:=hx.1
 have hyl:=hy.1
 refine D0 Tryz.func139 Tryz.ntmps139 fun w=>?_
 by_cases hl:la.length=lb.length
 · refine cF 25 [0] ?_
   refine gC (ι:=Nat) (fun i=>([(5,.int .i64 (i:Int)),(0,.slice a (List.length la) ca),(1,.slice b (List.length lb) cb)],[])) (fun i=>i≤la.length∧∀ j:Nat,j<i→xs[j]?.getD 0=ys[j]?.getD 0) (fun i=>la.length - i) (0) (⟨aU _,fun j hj=>by omega⟩) fun i=>fun hk=>?_
   obtain ⟨hi,he⟩:=hk
   rcases aM i la.length with hia | hia
   · have hxi:=hx.at (m:=(i:Int)) sV
     have hyi:=hy.at (m:=(i:Int)) sV
     have hxn:=lN hxi (bx.at _)
     have hyn:=lN hyi (by'.at _)
     refine cF 15 [1] ?_
     refine eB [] [] T.mixed [[0],[1]] ?_
     refine jC (α:=IV) 2 T.sl218 ?_
     refine pN 3 T.agg93 ?_
     refine eJ [[4],[5]] ?_
     refine jC (α:=IV) 6 T.sl218 ?_
     refine pN 7 T.agg93 ?_
     refine fE 8 ?_
     refine bW rfl (Zk _ _ _ _ _ sW sW sV sV) ?_
     refine dW ?_
     refine eJ [[9]] ?_
     refine dV ?_
     refine cE ?_
     refine dN (fun hc1=>?_) fun hc1=>?_
     refine bE 11 [] ?_
     rotate_left
     refine bE 8 [] ?_
     rotate_left
     · refine bO ?_
       have hne:¬xs=ys:=fun e=>by subst e;exact hc1 (Dn.2 rfl)
       exact ⟨by rw [bF hne],rfl,rfl⟩
     have hc2:=Dn.1 (sE.1 hc1)
     rw [aF] at hc2
     refine cS (i+1) ?_ ?_
     · refine ⟨by omega,fun j hj=>?_⟩
       by_cases hji:j=i
       · subst hji;exact hc2
       exact he j sV
     show la.length - (i+1)<la.length - i
     omega
   refine bE 21 [0] ?_
   refine bO ?_
   have hee:xs=ys:=ID sV (fun j hj=>he j sV)
   exact ⟨by rw [cL hee],rfl,rfl⟩
 refine bE 23 [1] ?_
 refine bO ?_
 have hne:¬xs=ys:=fun e=>by subst e;omega
 exact ⟨by rw [bF hne],rfl,rfl⟩
def Pa (G:Imm) (v:Value) (zs:List Int):Prop:=∃ (o:Option Addr) (c:Nat) (l:List IV),v=.slice o l.length c∧Arr G o l∧Nums G l zs∧l.length≤c
theorem QO (G:Imm) (x y:IV) (zx zy:Int) (a b:Option Addr) (ca cb:Nat) (la lb:List IV) (xs ys:List Int) (hx:Num G x zx) (hy:Num G y zy) (ha:Arr G a la) (hb:Arr G b lb) (hxs:Nums G la xs) (hys:Nums G lb ys) (hl:la.length=lb.length) (k m:Nat) (hk:k+m≤134217728)
 (bx:(zx.natAbs:Int)<pw k) (by':(zy.natAbs:Int)<pw k) (bxs:Go.Sl.Below m xs) (bys:Go.Sl.Below m ys) (h1:la.length≤1048576) :
 Does Tryz.prog 256 [.agg (Cells.enc x).toArray,.slice a la.length ca,.agg (Cells.enc y).toArray,.slice b lb.length cb] G [] (fun v G' Ho=>Pa G' v (Jc zx xs zy ys)∧Ho=[]):=by
 have hxl:=hxs.1
 have hyl:=hys.1
 obtain ⟨K,hK⟩:∃ K,K=k+m:=⟨_,rfl⟩
 have hK9:K≤1073741824:=sV
 refine D0 Tryz.func256 Tryz.ntmps256 fun w=>?_
 refine fO 9 (tK 93 ([]:List IV) []) ?_
 refine aK 2 [] ?_
 refine cV 10 fun b1=>?_
 refine cV 11 fun b2=>?_
 refine bJ 15 [] ?_
 refine jQ (ι:=Nat×Imm×List IV×(Option Addr×Nat×List Value)) (fun (i,Gx,r,(o,d,j))=>([(10,.int .i64 (i:Int)),(9,.slice o r.length d),(8,.slice none 0 0),(6,.pointer (some ⟨b2,0,none⟩)),(4,.pointer (some ⟨b1,0,none⟩)),(1,.slice a (List.length la) ca),(3,.slice b (List.length lb) cb)],[(9,o.map (·.block),tK 93 r j),(11,some b2,.cells (List.toArray (Cells.enc y)) 93),(10,some b1,.cells (List.toArray (Cells.enc x)) 93)])) (fun (i,Gx,r,(o,d,j))=>Gx) (fun (i,Gx,r,(o,d,j))=>i≤la.length∧G.le Gx∧r.length=i∧Nums Gx r ((Jc zx xs zy ys).take i)∧OwnA o d r j) (fun (i,Gx,r,(o,d,j))=>la.length - i) ((0,G,[],(none,0,[]))) (⟨aU _,cA _,rfl,by rw [bN];exact Nums.nil _,eW⟩) rfl ⟨rfl,rfl,rfl,rfl,rfl,rfl,rfl,trivial⟩ ⟨rfl,rfl,rfl,trivial⟩ fun ⟨i,Gx,r,(o,d,j)⟩=>fun hk=>?_
 obtain ⟨hi,hgx,hri,hrs,hob⟩:=hk
 replace hx:=hx.up hgx
 replace hy:=hy.up hgx
 replace ha:=ha.up hgx
 replace hb:=hb.up hgx
 replace hxs:=hxs.up hgx
 replace hys:=hys.up hgx
 rcases aM i la.length with hia | hia
 · have hxi:=hxs.at (m:=(i:Int)) sV
   have hyi:=hys.at (m:=(i:Int)) sV
   have hxn:=lN hxi (bxs.at _)
   have hyn:=lN hyi (bys.at _)
   have hxn0:=lN hx bx
   have hyn0:=lN hy by'
   have hp1:=Hh bx (bxs.at (m:=m) ((i:Int).toNat))
   have hp2:=Hh by' (bys.at (m:=m) ((i:Int).toNat))
   rw [←hK] at hp1 hp2
   refine cF 14 [1] ?_
   refine eB [10,11,9] [(9,15)] T.mixed [[0],[1,10],[2],[3]] ?_
   refine jC (α:=IV) 4 T.sl218 ?_
   refine pN 5 T.agg93 ?_
   refine eJ [[7,11],[8],[9]] ?_
   refine jC (α:=IV) 10 T.sl218 ?_
   refine pN 11 T.agg93 ?_
   refine fE 6 ?_
   refine bV 12 rfl (Zm _ _ _ _ _ sW sW sV sV) fun v1 G1 Ho1 hle1 hp=>?_
   obtain ⟨pm1,rfl,hpm1,rfl⟩:=hp
   replace hrs:=hrs.up hle1
   replace hx:=hx.up hle1
   replace hy:=hy.up hle1
   replace ha:=ha.up hle1
   replace hb:=hb.up hle1
   replace hxs:=hxs.up hle1
   replace hys:=hys.up hle1
   replace hxi:=hxi.up hle1
   replace hyi:=hyi.up hle1
   refine bT 12 ?_
   refine bV 12 rfl (Zm _ _ _ _ _ sW sW sV sV) fun v2 G2 Ho2 hle2 hp=>?_
   obtain ⟨pm2,rfl,hpm2,rfl⟩:=hp
   replace hpm1:=hpm1.up hle2
   replace hrs:=hrs.up hle2
   replace hx:=hx.up hle2
   replace hy:=hy.up hle2
   replace ha:=ha.up hle2
   replace hb:=hb.up hle2
   replace hxs:=hxs.up hle2
   replace hys:=hys.up hle2
   replace hxi:=hxi.up hle2
   replace hyi:=hyi.up hle2
   refine bT 13 ?_
   refine bV 12 rfl (Zj _ _ _ _ _ sW sW (aO (lN (m:=K) sW sW) hK9) (aO (lN (m:=K) sW sW) hK9)) fun v3 G3 Ho3 hle3 hp=>?_
   obtain ⟨ps3,rfl,hps3,rfl⟩:=hp
   replace hpm2:=hpm2.up hle3
   replace hpm1:=hpm1.up hle3
   replace hrs:=hrs.up hle3
   replace hx:=hx.up hle3
   replace hy:=hy.up hle3
   replace ha:=ha.up hle3
   replace hb:=hb.up hle3
   replace hxs:=hxs.up hle3
   replace hys:=hys.up hle3
   replace hxi:=hxi.up hle3
   replace hyi:=hyi.up hle3
   refine bT 14 ?_
   refine fF (α:=IV) 12 [(ps3)] rfl T.sl218 T.el93 rfl rfl rfl rfl rfl fun b3=>?_
   refine bT 15 ?_
   refine kO (α:=IV) 9 T.sl218 T.el93 (fZ 12 rfl) fun a1 c1 junk1 ho1=>?_
   refine dW ?_
   refine eJ [[16]] ?_
   refine dV ?_
   refine gZ 7 [] ?_
   refine cS ((i+1,G3,r++[ps3],(a1,c1,junk1))) ?_ ?_
   · exact ⟨by omega,aZ hgx (aZ hle1 (aZ hle2 hle3)),by rw [aI];show r.length+1=i+1;omega,by rw [DD sV sV];exact hrs.snoc hps3,ho1⟩
   show la.length - (i+1)<la.length - i
   omega
 refine bE 22 [0] ?_
 have hcap:=hob.le
 rw [dD (by rw [Ug sV];omega)] at hrs
 refine eE 9 rfl hob fun G9 hle9 hA=>?_
 refine bO ?_
 exact ⟨⟨o,d,r,rfl,hA,hrs.up hle9,hcap⟩,rfl⟩
theorem Xi (G:Imm) (n:Nat):Nums G (List.replicate n (default:IV)) (List.replicate n 0):=by
 refine ⟨by rw [aE,aE],fun i hi=>?_⟩
 rw [aE] at hi
 rw [fP,fP,aR hi,aR hi]
 exact Num.zero G
theorem TM (G:Imm) (n:Nat) (hn:n≤1048576) :
 Does Tryz.prog 138 [.int .i64 (n:Int)] G [] (fun v G' Ho=>Pa G' v (List.replicate n 0)∧Ho=[]):=by
 refine D0 Tryz.func138 Tryz.ntmps138 fun w=>?_
 refine aK 8 [] ?_
 refine iC (α:=IV) 0 rfl T.sl218 T.el93 rfl rfl sV sV fun b1=>?_
 refine aW 4 [] ?_
 have hr:∀ N:Nat,(N:Int).toNat=N:=fun N=>aF N
 rw [hr n]
 have hl:(List.replicate n (default:IV)).length=n:=aE
 have hob:OwnA (some ⟨b1,0,none⟩) n (List.replicate n (default:IV)) []:=.inr ⟨b1,rfl,by rw [hl];rfl,by omega,by simp only [maxLen];omega⟩
 refine eE 0 rfl hob fun G9 hle9 hA=>?_
 refine bO ?_
 exact ⟨⟨_,n,_,by rw [hl],hA,Xi _ n,by rw [hl];exact aG _⟩,rfl⟩
theorem Xj (z:Int) (xs:List Int):Jc z xs 0 xs=xs.map (fun a=>z*a):=by
 unfold Jc
 induction xs with
 | nil=>rfl
 | cons a l ih=>rw [List.zipWith_cons_cons,ih,bY,gK,dG]
theorem Uh (c:Int) (xs ys:List Int):Jc 1 xs c ys=List.zipWith (fun a b=>a+c*b) xs ys:=by
 unfold Jc
 congr 1
 funext a b
 rw [fH]
theorem ZA (G:Imm) (x:IV) (z:Int) (a:Option Addr) (ca:Nat) (la:List IV) (xs:List Int) (hx:Num G x z) (ha:Arr G a la) (hxs:Nums G la xs) (k m:Nat) (hk:k+m≤134217728)
 (bx:(z.natAbs:Int)<pw k) (bxs:Go.Sl.Below m xs) (h1:la.length≤1048576) :
 Does Tryz.prog 217 [.slice a la.length ca,.agg (Cells.enc x).toArray] G [] (fun v G' Ho=>Pa G' v (xs.map (fun a=>z*a))∧Ho=[]):=by
 refine D0 Tryz.func217 Tryz.ntmps217 fun w=>?_
 refine aK 2 [] ?_
 refine cV 0 fun b1=>?_
 refine aJ 7 [0] ?_
 refine aN (fB (cs:=[_,_]) T.st93 rfl rfl rfl) ?_
 refine aA 1 [] ?_
 refine bV 1 rfl (QO _ x ⟨false,none,0,0⟩ z 0 _ _ _ _ _ _ xs xs hx (Num.zero _) ha ha hxs hxs rfl k m hk bx (NL k) bxs bxs h1) fun v1 G1 Ho1 hle1 hp=>?_
 obtain ⟨⟨ro1,rc1,rl1,rfl,hrA1,hrs1,hrl1⟩,rfl⟩:=hp
 replace hx:=hx.up hle1
 replace ha:=ha.up hle1
 replace hxs:=hxs.up hle1
 refine aW 4 [] ?_
 refine bO ?_
 exact ⟨⟨ro1,rc1,rl1,rfl,hrA1,by rw [←Xj];exact hrs1,hrl1⟩,rfl⟩
theorem ZB (G:Imm) (a b:Option Addr) (ca cb:Nat) (la lb:List IV) (xs ys:List Int) (ha:Arr G a la) (hb:Arr G b lb) (hxs:Nums G la xs) (hys:Nums G lb ys) (hl:la.length=lb.length) (m:Nat) (hm:1+m≤134217728)
 (bxs:Go.Sl.Below m xs) (bys:Go.Sl.Below m ys) (h1:la.length≤1048576) :
 Does Tryz.prog 218 [.slice a la.length ca,.slice b lb.length cb] G [] (fun v G' Ho=>Pa G' v (List.zipWith (fun a b=>a+1*b) xs ys)∧Ho=[]):=by
 refine D0 Tryz.func218 Tryz.ntmps218 fun w=>?_
 refine aK 7 [] ?_
 refine bV 0 rfl (Dm _ _ ⟨by decide,by decide⟩) fun v1 G1 Ho1 hle1 hp=>?_
 obtain ⟨ri1,rfl,hri1,rfl⟩:=hp
 replace ha:=ha.up hle1
 replace hb:=hb.up hle1
 replace hxs:=hxs.up hle1
 replace hys:=hys.up hle1
 refine aA 1 [] ?_
 refine bV 0 rfl (Dm _ _ ⟨by decide,by decide⟩) fun v2 G2 Ho2 hle2 hp=>?_
 obtain ⟨ri2,rfl,hri2,rfl⟩:=hp
 replace hri1:=hri1.up hle2
 replace ha:=ha.up hle2
 replace hb:=hb.up hle2
 replace hxs:=hxs.up hle2
 replace hys:=hys.up hle2
 refine aA 1 [] ?_
 refine bV 0 rfl (QO _ _ _ 1 1 _ _ _ _ la lb xs ys hri1 hri2 ha hb hxs hys hl 1 m hm Ri Ri bxs bys h1) fun v3 G3 Ho3 hle3 hp=>?_
 obtain ⟨⟨ro3,rc3,rl3,rfl,hrA3,hrs3,hrl3⟩,rfl⟩:=hp
 replace hri2:=hri2.up hle3
 replace hri1:=hri1.up hle3
 replace ha:=ha.up hle3
 replace hb:=hb.up hle3
 replace hxs:=hxs.up hle3
 replace hys:=hys.up hle3
 refine aW 4 [] ?_
 refine bO ?_
 exact ⟨⟨ro3,rc3,rl3,rfl,hrA3,by rw [←Uh];exact hrs3,hrl3⟩,rfl⟩
theorem ZC (G:Imm) (a b:Option Addr) (ca cb:Nat) (la lb:List IV) (xs ys:List Int) (ha:Arr G a la) (hb:Arr G b lb) (hxs:Nums G la xs) (hys:Nums G lb ys) (hl:la.length=lb.length) (m:Nat) (hm:1+m≤134217728)
 (bxs:Go.Sl.Below m xs) (bys:Go.Sl.Below m ys) (h1:la.length≤1048576) :
 Does Tryz.prog 219 [.slice a la.length ca,.slice b lb.length cb] G [] (fun v G' Ho=>Pa G' v (List.zipWith (fun a b=>a+(-1)*b) xs ys)∧Ho=[]):=by
 refine D0 Tryz.func219 Tryz.ntmps219 fun w=>?_
 refine aK 7 [] ?_
 refine bV 0 rfl (Dm _ _ ⟨by decide,by decide⟩) fun v1 G1 Ho1 hle1 hp=>?_
 obtain ⟨ri1,rfl,hri1,rfl⟩:=hp
 replace ha:=ha.up hle1
 replace hb:=hb.up hle1
 replace hxs:=hxs.up hle1
 replace hys:=hys.up hle1
 refine aA 1 [] ?_
 refine bV 0 rfl (Dm _ _ ⟨by decide,by decide⟩) fun v2 G2 Ho2 hle2 hp=>?_
 obtain ⟨ri2,rfl,hri2,rfl⟩:=hp
 replace hri1:=hri1.up hle2
 replace ha:=ha.up hle2
 replace hb:=hb.up hle2
 replace hxs:=hxs.up hle2
 replace hys:=hys.up hle2
 refine aA 1 [] ?_
 refine bV 0 rfl (QO _ _ _ 1 (-1) _ _ _ _ la lb xs ys hri1 hri2 ha hb hxs hys hl 1 m hm Ri Zq bxs bys h1) fun v3 G3 Ho3 hle3 hp=>?_
 obtain ⟨⟨ro3,rc3,rl3,rfl,hrA3,hrs3,hrl3⟩,rfl⟩:=hp
 replace hri2:=hri2.up hle3
 replace hri1:=hri1.up hle3
 replace ha:=ha.up hle3
 replace hb:=hb.up hle3
 replace hxs:=hxs.up hle3
 replace hys:=hys.up hle3
 refine aW 4 [] ?_
 refine bO ?_
 exact ⟨⟨ro3,rc3,rl3,rfl,hrA3,by rw [←Uh];exact hrs3,hrl3⟩,rfl⟩
theorem Ui {y:Int} {xs:List Int} {i:Nat} (hi:i<xs.length) :
 (xs.map (· / y)).take (i+1)=(xs.map (· / y)).take i++[xs[((i:Nat):Int).toNat]?.getD 0 / y]:=by
 have h1:i<(xs.map (· / y)).length:=by rw [bX];exact hi
 rw [mY h1,aF,aB hi,iW];rfl
theorem ZD (G:Imm) (y:IV) (zy:Int) (a:Option Addr) (ca:Nat) (la:List IV) (xs:List Int) (hy:Num G y zy) (ha:Arr G a la) (hxs:Nums G la xs) (m:Nat) (hm:m≤134217728) (hyn0:y.n≤134217728)
 (bxs:Go.Sl.Below m xs) (hy0:zy≠0) (h1:la.length≤1048576) :
 Does Tryz.prog 221 [.slice a la.length ca,.agg (Cells.enc y).toArray] G [] (fun v G' Ho=>∃ rv,v=.tuple #[rv,.bool (decide (vC zy xs))]∧(vC zy xs→Pa G' rv (xs.map (· / zy)))∧Ho=[]):=by
 have hxl:=hxs.1
 refine D0 Tryz.func221 Tryz.ntmps221 fun w=>?_
 refine fO 9 (tK 93 ([]:List IV) []) ?_
 refine aK 2 [] ?_
 refine cV 10 fun b1=>?_
 refine bJ 16 [] ?_
 refine jQ (ι:=Nat×Imm×List IV×(Option Addr×Nat×List Value)) (fun (i,Gx,r,(o,d,j))=>([(7,.int .i64 (i:Int)),(6,.slice o r.length d),(3,.pointer (some ⟨b1,0,none⟩)),(0,.slice a (List.length la) ca)],[(9,o.map (·.block),tK 93 r j),(10,some b1,.cells (List.toArray (Cells.enc y)) 93)])) (fun (i,Gx,r,(o,d,j))=>Gx) (fun (i,Gx,r,(o,d,j))=>i≤la.length∧G.le Gx∧r.length=i∧Nums Gx r ((xs.map (· / zy)).take i)∧OwnA o d r j∧∀ q:Nat,q<i→xs[q]?.getD 0 % zy=0) (fun (i,Gx,r,(o,d,j))=>la.length - i) ((0,G,[],(none,0,[]))) (⟨aU _,cA _,rfl,by rw [bN];exact Nums.nil _,eW,fun q hq=>by omega⟩) rfl ⟨rfl,rfl,rfl,rfl,trivial⟩ ⟨rfl,rfl,trivial⟩ fun ⟨i,Gx,r,(o,d,j)⟩=>fun hk=>?_
 obtain ⟨hi,hgx,hri,hrs,hob,hq⟩:=hk
 replace hy:=hy.up hgx
 replace ha:=ha.up hgx
 replace hxs:=hxs.up hgx
 rcases aM i la.length with hia | hia
 · have hxi:=hxs.at (m:=(i:Int)) sV
   have hxn:=lN hxi (bxs.at _)
   refine cF 15 [1] ?_
   refine eB [10,9] [] T.mixed [[0],[1]] ?_
   refine jC (α:=IV) 2 T.sl218 ?_
   refine pN 3 T.agg93 ?_
   refine eJ [[4,10]] ?_
   refine pM 5 9 ?_ ?_
   refine bV 11 rfl (Uf _ _ _ _ zy sW sW sV sV hy0) fun v1 G1 Ho1 hle1 hp=>?_
   obtain ⟨qo1,rfl,hqo1,rfl⟩:=hp
   replace hrs:=hrs.up hle1
   replace hy:=hy.up hle1
   replace ha:=ha.up hle1
   replace hxs:=hxs.up hle1
   replace hxi:=hxi.up hle1
   refine dW ?_
   refine eJ [[6],[7],[8]] ?_
   refine fE 9 ?_
   refine aQ 11 rfl T.zero93 fun b2=>?_
   refine bT 10 ?_
   refine aA 1 [11] ?_
   refine dW ?_
   refine eJ [[11]] ?_
   refine dV ?_
   refine pY 5 [] ?_
   refine aN (dK rfl) ?_
   refine bJ 2 [] ?_
   refine dN (fun hc1=>?_) fun hc1=>?_
   refine bE 13 [] ?_
   rotate_left
   refine aK 5 [11] ?_
   refine fF (α:=IV) 12 [(qo1)] rfl T.sl218 T.el93 rfl rfl rfl rfl rfl fun b3=>?_
   refine kO (α:=IV) 9 T.sl218 T.el93 (fZ 12 rfl) fun a1 c1 junk1 ho1=>?_
   refine aW 9 [] ?_
   rotate_left
   refine aQ 11 rfl T.zero93 fun b2=>?_
   refine bT 5 ?_
   refine bV 12 rfl (Uf _ _ _ _ zy sW sW sV sV hy0) fun v1 G1 Ho1 hle1 hp=>?_
   obtain ⟨qo1,rfl,hqo1,rfl⟩:=hp
   replace hrs:=hrs.up hle1
   replace hy:=hy.up hle1
   replace ha:=ha.up hle1
   replace hxs:=hxs.up hle1
   replace hxi:=hxi.up hle1
   refine dW ?_
   refine eJ [[6],[7],[8]] ?_
   refine fE 10 ?_
   refine aA 1 [11] ?_
   refine dW ?_
   refine eJ [[11]] ?_
   refine dV ?_
   refine pY 5 [] ?_
   refine aN (dK rfl) ?_
   refine bJ 2 [] ?_
   refine dN (fun hc1=>?_) fun hc1=>?_
   refine bE 13 [] ?_
   rotate_left
   refine aK 5 [11] ?_
   refine fF (α:=IV) 12 [(qo1)] rfl T.sl218 T.el93 rfl rfl rfl rfl rfl fun b3=>?_
   refine kO (α:=IV) 9 T.sl218 T.el93 (fZ 12 rfl) fun a1 c1 junk1 ho1=>?_
   refine aW 9 [] ?_
   rotate_left
   · refine eG ?_
     have hn:¬vC zy xs:=fun h=>hc1 (h _ sV)
     exact ⟨_,by rw [bF hn],fun h=>absurd h hn,rfl⟩
   · have hc2:=sE.1 hc1
     rw [aR hc2] at hqo1
     refine cS ((i+1,G1,r++[qo1],(a1,c1,junk1))) ?_ ?_
     · refine ⟨by omega,aZ hgx hle1,by rw [aI];show r.length+1=i+1;omega,by rw [Ui sV];exact hrs.snoc hqo1,ho1,fun q hq9=>?_⟩
       by_cases hqi:q=i
       · subst hqi;rw [aF] at hc2;exact hc2
       exact hq q sV
     show la.length - (i+1)<la.length - i
     omega
   · refine eG ?_
     have hn:¬vC zy xs:=fun h=>hc1 (h _ sV)
     exact ⟨_,by rw [bF hn],fun h=>absurd h hn,rfl⟩
   have hc2:=sE.1 hc1
   rw [aR hc2] at hqo1
   refine cS ((i+1,G1,r++[qo1],(a1,c1,junk1))) ?_ ?_
   · refine ⟨by omega,aZ hgx hle1,by rw [aI];show r.length+1=i+1;omega,by rw [Ui sV];exact hrs.snoc hqo1,ho1,fun q hq9=>?_⟩
     by_cases hqi:q=i
     · subst hqi;rw [aF] at hc2;exact hc2
     exact hq q sV
   show la.length - (i+1)<la.length - i
   omega
 refine bE 23 [0] ?_
 have hcap:=hob.le
 have hall:vC zy xs:=fun q hq9=>hq q sV
 rw [dD (by rw [bX];omega)] at hrs
 refine eE 9 rfl hob fun G9 hle9 hA=>?_
 refine eG ?_
 exact ⟨_,by rw [cL hall],fun _=>⟨o,d,r,rfl,hA,hrs.up hle9,hcap⟩,rfl⟩
end
def yM (G:Imm) (s:SV) (zs:List Int):Prop:=∃ l:List IV,l.length=s.n∧s.n≤s.c∧Arr G s.a l∧Nums G l zs
def Grid (G:Imm) (l:List SV) (rs:List (List Int)):Prop:=l.length=rs.length∧∀ i:Nat,i<l.length→yM G (l[i]?.getD default) (rs[i]?.getD [])
theorem Grid.nil (G:Imm):Grid G [] []:=⟨rfl,fun i hi=>by simp at hi⟩
section
attribute [local irreducible] sZ pw tQ p2
theorem NM (G:Imm) (i:Sl.Instr) (hc1:i.op=5∨i.op=6→-9223372036854775808≤i.c∧i.c≤9223372036854775807) (hc2:¬(i.op=5∨i.op=6)→0≤i.c∧i.c≤64) :
 Does Tryz.prog 220 [.agg (Cells.enc i).toArray] G [] (fun v G' Ho=>∃ r:IV,v=.agg (Cells.enc r).toArray∧Num G' r (cst i)∧Ho=[]):=by
 refine D0 Tryz.func220 Tryz.ntmps220 fun w=>?_
 by_cases h5:i.op=5
 · have hc1:=hc1 (.inl h5)
   refine aK 2 [] ?_
   refine cV 0 fun b1=>?_
   refine aQ 1 rfl T.zero93 fun b2=>?_
   refine aJ 9 [0] ?_
   refine Io 6 ?_
   refine aJ 11 [1,0] ?_
   refine bV 2 rfl (Dm _ _ hc1) fun v1 G1 Ho1 hle1 hp=>?_
   obtain ⟨ri1,rfl,hri1,rfl⟩:=hp
   refine aW 5 [1] ?_
   refine dL (.inr rfl) (Ho:=[]) rfl (.agg 1 rfl rfl T.agg93) trivial ?_
   exact ⟨ri1,rfl,by rw [Uc (.inl h5)];exact hri1,rfl⟩
 by_cases h6:i.op=6
 · have hc1:=hc1 (.inr h6)
   refine aK 2 [] ?_
   refine cV 0 fun b1=>?_
   refine aQ 1 rfl T.zero93 fun b2=>?_
   refine aJ 9 [0] ?_
   refine jV 6 ?_
   refine aJ 14 [0,1,0] ?_
   refine bV 2 rfl (Dm _ _ hc1) fun v1 G1 Ho1 hle1 hp=>?_
   obtain ⟨ri1,rfl,hri1,rfl⟩:=hp
   refine aW 5 [1] ?_
   refine dL (.inr rfl) (Ho:=[]) rfl (.agg 1 rfl rfl T.agg93) trivial ?_
   exact ⟨ri1,rfl,by rw [Uc (.inr h6)];exact hri1,rfl⟩
 have hcp:=HM (i:=i) sV
 obtain ⟨c,hc⟩:∃ c:Nat,i.c=(c:Int):=⟨i.c.toNat,by have:=hc2 sV;omega⟩
 have hc9:c≤16777216:=by have:=hc2 sV;omega
 rw [hc,aF] at hcp
 clear hc1 hc2
 obtain ⟨o,t,a,b,cc⟩:=i
 simp only at hc h5 h6
 subst hc
 refine aK 2 [] ?_
 refine cV 0 fun b1=>?_
 refine aQ 1 rfl T.zero93 fun b2=>?_
 refine aJ 9 [0] ?_
 refine jV 6 ?_
 refine aJ 16 [0,0,0] ?_
 refine bV 2 rfl (YY _ c hc9) fun v1 G1 Ho1 hle1 hp=>?_
 obtain ⟨ri1,rfl,hri1,rfl⟩:=hp
 refine aW 4 [1] ?_
 refine dL (.inr rfl) (Ho:=[]) rfl (.agg 1 rfl rfl T.agg93) trivial ?_
 exact ⟨ri1,rfl,by rw [hcp];exact hri1,rfl⟩
theorem Hj (G:Imm) (x:IV) (z:Int) (s:SV) (xs:List Int) (hx:Num G x z) (hs:yM G s xs) (m:Nat) (hk:5+m≤134217728)
 (bx:(z.natAbs:Int)<pw 5) (bxs:Go.Sl.Below m xs) (h1:s.n≤1048576) :
 Does Tryz.prog 217 [.slice s.a s.n s.c,.agg (Cells.enc x).toArray] G [] (fun v G' Ho=>∃ s':SV,v=.slice s'.a s'.n s'.c∧yM G' s' (xs.map (fun a=>z*a))∧Ho=[]):=by
 obtain ⟨sa,sn,sc⟩:=s
 obtain ⟨l,hl,hc,hA,hN⟩:=hs
 simp only at hl hc hA h1
 subst hl
 refine (ZA G x z sa sc l xs hx hA hN 5 m hk bx bxs h1).mono fun v G' Ho _ ⟨h,e⟩=>?_
 obtain ⟨s',e1,e2⟩:=h.handle
 exact ⟨s',e1,e2,e⟩
theorem NN (G:Imm) (s t:SV) (xs ys:List Int) (hs:yM G s xs) (ht:yM G t ys) (hl:xs.length=ys.length) (m:Nat) (hm:1+m≤134217728) (bxs:Go.Sl.Below m xs) (bys:Go.Sl.Below m ys) (h1:s.n≤1048576) :
 Does Tryz.prog 218 [.slice s.a s.n s.c,.slice t.a t.n t.c] G [] (fun v G' Ho=>∃ s':SV,v=.slice s'.a s'.n s'.c∧yM G' s' (List.zipWith (fun a b=>a+1*b) xs ys)∧Ho=[]):=by
 obtain ⟨sa,sn,sc⟩:=s
 obtain ⟨ta,tn,tc⟩:=t
 obtain ⟨l,hl1,hc,hA,hN⟩:=hs
 obtain ⟨l',hl2,hc',hA',hN'⟩:=ht
 simp only at hl1 hc hA h1 hl2 hc' hA'
 subst hl1 hl2
 have e1:=hN.1
 have e2:=hN'.1
 refine (ZB G sa ta sc tc l l' xs ys hA hA' hN hN' sV m hm bxs bys h1).mono fun v G' Ho _ ⟨h,e⟩=>?_
 obtain ⟨s',e1,e2⟩:=h.handle
 exact ⟨s',e1,e2,e⟩
theorem NO (G:Imm) (s t:SV) (xs ys:List Int) (hs:yM G s xs) (ht:yM G t ys) (hl:xs.length=ys.length) (m:Nat) (hm:1+m≤134217728) (bxs:Go.Sl.Below m xs) (bys:Go.Sl.Below m ys) (h1:s.n≤1048576) :
 Does Tryz.prog 219 [.slice s.a s.n s.c,.slice t.a t.n t.c] G [] (fun v G' Ho=>∃ s':SV,v=.slice s'.a s'.n s'.c∧yM G' s' (List.zipWith (fun a b=>a+(-1)*b) xs ys)∧Ho=[]):=by
 obtain ⟨sa,sn,sc⟩:=s
 obtain ⟨ta,tn,tc⟩:=t
 obtain ⟨l,hl1,hc,hA,hN⟩:=hs
 obtain ⟨l',hl2,hc',hA',hN'⟩:=ht
 simp only at hl1 hc hA h1 hl2 hc' hA'
 subst hl1 hl2
 have e1:=hN.1
 have e2:=hN'.1
 refine (ZC G sa ta sc tc l l' xs ys hA hA' hN hN' sV m hm bxs bys h1).mono fun v G' Ho _ ⟨h,e⟩=>?_
 obtain ⟨s',e1,e2⟩:=h.handle
 exact ⟨s',e1,e2,e⟩
theorem Uj (G:Imm) (y:IV) (zy:Int) (s:SV) (xs:List Int) (hy:Num G y zy) (hs:yM G s xs) (m:Nat) (hm:m≤134217728) (by':(zy.natAbs:Int)<pw 5) (bxs:Go.Sl.Below m xs) (hy0:zy≠0) (h1:s.n≤1048576) :
 Does Tryz.prog 221 [.slice s.a s.n s.c,.agg (Cells.enc y).toArray] G [] (fun v G' Ho=>∃ rv,v=.tuple #[rv,.bool (decide (vC zy xs))]∧(vC zy xs→∃ s':SV,rv=.slice s'.a s'.n s'.c∧yM G' s' (xs.map (· / zy)))∧Ho=[]):=by
 obtain ⟨sa,sn,sc⟩:=s
 obtain ⟨l,hl,hc,hA,hN⟩:=hs
 simp only at hl hc hA h1
 subst hl
 refine (ZD G y zy sa sc l xs hy hA hN m hm (aO (lN hy by') tF) bxs hy0 h1).mono fun v G' Ho _ ⟨rv,h,h2,e⟩=>?_
 exact ⟨rv,h,fun ha=>(h2 ha).handle,e⟩
def Even (m N:Nat) (rs:List (List Int)):Prop:=∀ zs∈rs,zs.length=N∧Go.Sl.Below m zs
theorem Even.at {m N:Nat} {rs:List (List Int)} (h:Even m N rs) {k:Int} (hk:0≤k∧k<rs.length):(rs[k.toNat]?.getD []).length=N∧Go.Sl.Below m (rs[k.toNat]?.getD []):=by
 have h1:k.toNat<rs.length:=sV
 rw [aB h1]
 exact h _ (dJ h1)
end
section
attribute [local irreducible] sZ pw tQ p2
theorem NP:(((-1:Int)).natAbs:Int)<pw 5:=jB Zq (Tg tF)
def Rj (i:Sl.Instr) (rs:List (List Int)) (H0:Hp) (v:Value) (G':Imm) (Ho:Hp):Prop:=
 ∃ rv,v=.tuple #[rv,.bool (decide (yF i rs≠none))]∧(∀ zs,yF i rs=some zs→∃ s:SV,rv=.slice s.a s.n s.c∧yM G' s zs)∧Ho=H0
theorem zA {i:Sl.Instr} {rs:List (List Int)} {H0:Hp} {s:SV} {G':Imm} {zs:List Int} (h:yF i rs=some zs) (hs:yM G' s zs):Rj i rs H0 (.tuple #[.slice s.a s.n s.c,.bool true]) G' H0:=
 ⟨_,by rw [cL (show yF i rs≠none from fun e=>by rw [e] at h;cases h)],fun zs' h'=>by rw [h] at h';cases h';exact ⟨s,rfl,hs⟩,rfl⟩
theorem Uk {i:Sl.Instr} {rs:List (List Int)} {H0:Hp} {rv:Value} {G':Imm} {y:Int} {xs:List Int} (h:yF i rs=if vC y xs then some (xs.map (· / y)) else none)
 (hs:vC y xs→∃ s:SV,rv=.slice s.a s.n s.c∧yM G' s (xs.map (· / y))):Rj i rs H0 (.tuple #[rv,.bool (decide (vC y xs))]) G' H0:=by
 by_cases ha:vC y xs
 · rw [aR ha] at h
   obtain ⟨s,e1,e2⟩:=hs ha
   subst e1
   rw [cL ha]
   exact zA h e2
 rw [aL ha] at h
 refine ⟨rv,by rw [bF ha,bF (show ¬yF i rs≠none from fun e=>e h)],(fun zs hz=>by rw [h] at hz;cases hz),rfl⟩
theorem ZE (G:Imm) (i:Sl.Instr) (o:Option Addr) (d:Nat) (r:List SV) (j:List Value) (rs:List (List Int)) (m N:Nat) (hob:OwnA o d r j) (hg:Grid G r rs) (he:Even m N rs) (hN:N≤1048576) (hm:5+m≤134217728)
 (hop:1≤i.op∧i.op≤8) (ha:0≤i.a∧i.a<r.length) (hb:i.op=3∨i.op=4→0≤i.b∧i.b<r.length) (hcc:Ao i.op i.c=true) (hr:r.length≤1048576) (hz:i.op≠1→i.op≠2→i.op≠3→i.op≠4→cst i≠0∧((cst i).natAbs:Int)<pw 5)
 (hc1:i.op=5∨i.op=6→-9223372036854775808≤i.c∧i.c≤9223372036854775807) (hc2:¬(i.op=5∨i.op=6)→0≤i.c∧i.c≤64) :
 Does Tryz.prog 178 [.agg (Cells.enc i).toArray,.slice o r.length d] G [(0,o.map (·.block),tK 218 r j)] (fun v G' Ho=>Rj i rs [(0,o.map (·.block),tK 218 r j)] v G' Ho):=by
 have hgl:=hg.1
 have hca:=hob.le
 have haR:=hg.at ha
 obtain ⟨haL,haB⟩:=he.at (k:=i.a) sV
 have haN:(r[i.a.toNat]?.getD default).n≤1048576:=by rw [haR.len,haL];exact hN
 have hm1:1+m≤134217728:=sV
 have hm2:m≤134217728:=sV
 have hmone:=NP
 refine D0 Tryz.func178 Tryz.ntmps178 fun w=>?_
 by_cases h2:i.op=2
 · refine aK 2 [] ?_
   refine cV 1 fun b1=>?_
   refine aJ 9 [1] ?_
   refine fW (α:=SV) T.sl212 ?_
   refine nY 0 0 T.one218 ?_
   refine aJ 15 [1,1] ?_
   refine bV 2 rfl (Dm _ _ ⟨by decide,by decide⟩) fun v1 G1 Ho1 hle1 hp=>?_
   obtain ⟨ri1,rfl,hri1,rfl⟩:=hp
   replace hg:=hg.up hle1
   replace haR:=haR.up hle1
   refine bV 2 rfl (Hj _ _ _ _ _ sW sW m hm sW sW sW) fun v2 G2 Ho2 hle2 hp=>?_
   obtain ⟨rs2,rfl,hrs2,rfl⟩:=hp
   replace hri1:=hri1.up hle2
   replace hg:=hg.up hle2
   replace haR:=haR.up hle2
   refine aW 6 [] ?_
   refine iK (.inr rfl) (Ho:=[(0,o.map (·.block),tK 218 r j)]) rfl (.tmp rfl) (.tmp rfl) ⟨rfl,trivial⟩ ?_
   exact zA (by unfold yF;exact aR h2) hrs2
 by_cases h34:i.op=3∨i.op=4
 · have hb:=hb h34
   have hbR:=hg.at hb
   obtain ⟨hbL,hbB⟩:=he.at (k:=i.b) sV
   have hll:(rs[i.a.toNat]?.getD []).length=(rs[i.b.toNat]?.getD []).length:=by rw [haL,hbL]
   by_cases h3:i.op=3
   · refine aK 2 [] ?_
     refine cV 1 fun b1=>?_
     refine aJ 9 [1] ?_
     refine fW (α:=SV) T.sl212 ?_
     refine nY 0 0 T.one218 ?_
     refine aJ 29 [1,0,1,1,1] ?_
     refine fW (α:=SV) T.sl212 ?_
     refine nY 0 0 T.one218 ?_
     refine bV 2 rfl (NN _ _ _ _ _ sW hbR hll m hm1 sW hbB sW) fun v1 G1 Ho1 hle1 hp=>?_
     obtain ⟨rs1,rfl,hrs1,rfl⟩:=hp
     replace hg:=hg.up hle1
     replace haR:=haR.up hle1
     replace hbR:=hbR.up hle1
     refine aW 6 [] ?_
     refine iK (.inr rfl) (Ho:=[(0,o.map (·.block),tK 218 r j)]) rfl (.tmp rfl) (.tmp rfl) ⟨rfl,trivial⟩ ?_
     exact zA (by unfold yF;exact (aL h2).trans (aR h3)) hrs1
   have h4:i.op=4:=sV
   refine aK 2 [] ?_
   refine cV 1 fun b1=>?_
   refine aJ 9 [1] ?_
   refine fW (α:=SV) T.sl212 ?_
   refine nY 0 0 T.one218 ?_
   refine aJ 40 [1,0,1,0,1,1,1] ?_
   refine fW (α:=SV) T.sl212 ?_
   refine nY 0 0 T.one218 ?_
   refine bV 2 rfl (NO _ _ _ _ _ sW hbR hll m hm1 sW hbB sW) fun v1 G1 Ho1 hle1 hp=>?_
   obtain ⟨rs1,rfl,hrs1,rfl⟩:=hp
   replace hg:=hg.up hle1
   replace haR:=haR.up hle1
   replace hbR:=hbR.up hle1
   refine aW 6 [] ?_
   refine iK (.inr rfl) (Ho:=[(0,o.map (·.block),tK 218 r j)]) rfl (.tmp rfl) (.tmp rfl) ⟨rfl,trivial⟩ ?_
   exact zA (by unfold yF;exact (aL h2).trans ((aL h3).trans (aR h4))) hrs1
 by_cases h1:i.op=1
 · refine aK 2 [] ?_
   refine cV 1 fun b1=>?_
   refine aJ 9 [1] ?_
   refine fW (α:=SV) T.sl212 ?_
   refine nY 0 0 T.one218 ?_
   refine aJ 43 [1,0,1,0,1,0,1] ?_
   refine jV 41 ?_
   refine aJ 19 [1,0,1] ?_
   refine jV 53 ?_
   refine aW 20 [1,0] ?_
   refine iK (.inr rfl) (Ho:=[(0,o.map (·.block),tK 218 r j)]) rfl (.tmp rfl) (.tmp rfl) ⟨rfl,trivial⟩ ?_
   exact zA (by unfold yF;exact (aL h2).trans ((aL (fun e=>h34 (.inl e))).trans ((aL (fun e=>h34 (.inr e))).trans ((aL (by omega)).trans (aL (by omega)))))) haR
 obtain ⟨hy0,hyb⟩:=hz h1 h2 sV sV
 by_cases h5:i.op=5
 · refine aK 2 [] ?_
   refine cV 1 fun b1=>?_
   refine aJ 9 [1] ?_
   refine fW (α:=SV) T.sl212 ?_
   refine nY 0 0 T.one218 ?_
   refine aJ 43 [1,0,1,0,1,0,1] ?_
   refine Io 41 ?_
   refine aJ 11 [1,1] ?_
   refine bV 2 rfl (NM _ i hc1 hc2) fun v1 G1 Ho1 hle1 hp=>?_
   obtain ⟨ri1,rfl,hri1,rfl⟩:=hp
   replace hg:=hg.up hle1
   replace haR:=haR.up hle1
   refine bV 2 rfl (Hj _ _ _ _ _ sW sW m hm sW sW sW) fun v2 G2 Ho2 hle2 hp=>?_
   obtain ⟨rs2,rfl,hrs2,rfl⟩:=hp
   replace hri1:=hri1.up hle2
   replace hg:=hg.up hle2
   replace haR:=haR.up hle2
   refine aW 6 [] ?_
   refine iK (.inr rfl) (Ho:=[(0,o.map (·.block),tK 218 r j)]) rfl (.tmp rfl) (.tmp rfl) ⟨rfl,trivial⟩ ?_
   exact zA (by unfold yF;exact (aL h2).trans ((aL (fun e=>h34 (.inl e))).trans ((aL (fun e=>h34 (.inr e))).trans (aR (.inl h5))))) hrs2
 by_cases h7:i.op=7
 · refine aK 2 [] ?_
   refine cV 1 fun b1=>?_
   refine aJ 9 [1] ?_
   refine fW (α:=SV) T.sl212 ?_
   refine nY 0 0 T.one218 ?_
   refine aJ 43 [1,0,1,0,1,0,1] ?_
   refine jV 41 ?_
   refine aJ 14 [1,1,1] ?_
   refine bV 2 rfl (NM _ i hc1 hc2) fun v1 G1 Ho1 hle1 hp=>?_
   obtain ⟨ri1,rfl,hri1,rfl⟩:=hp
   replace hg:=hg.up hle1
   replace haR:=haR.up hle1
   refine bV 2 rfl (Hj _ _ _ _ _ sW sW m hm sW sW sW) fun v2 G2 Ho2 hle2 hp=>?_
   obtain ⟨rs2,rfl,hrs2,rfl⟩:=hp
   replace hri1:=hri1.up hle2
   replace hg:=hg.up hle2
   replace haR:=haR.up hle2
   refine aW 6 [] ?_
   refine iK (.inr rfl) (Ho:=[(0,o.map (·.block),tK 218 r j)]) rfl (.tmp rfl) (.tmp rfl) ⟨rfl,trivial⟩ ?_
   exact zA (by unfold yF;exact (aL h2).trans ((aL (fun e=>h34 (.inl e))).trans ((aL (fun e=>h34 (.inr e))).trans (aR (.inr h7))))) hrs2
 by_cases h6:i.op=6
 · refine aK 2 [] ?_
   refine cV 1 fun b1=>?_
   refine aJ 9 [1] ?_
   refine fW (α:=SV) T.sl212 ?_
   refine nY 0 0 T.one218 ?_
   refine aJ 43 [1,0,1,0,1,0,1] ?_
   refine jV 41 ?_
   refine aJ 19 [1,0,1] ?_
   refine Io 53 ?_
   refine aJ 11 [1,1] ?_
   refine bV 2 rfl (NM _ i hc1 hc2) fun v1 G1 Ho1 hle1 hp=>?_
   obtain ⟨ri1,rfl,hri1,rfl⟩:=hp
   replace hg:=hg.up hle1
   replace haR:=haR.up hle1
   refine bV 2 rfl (Uj _ _ _ _ _ sW sW m hm2 sW sW hy0 sW) fun v2 G2 Ho2 hle2 hp=>?_
   obtain ⟨rv2,rfl,hrv2,rfl⟩:=hp
   replace hri1:=hri1.up hle2
   replace hg:=hg.up hle2
   replace haR:=haR.up hle2
   refine aW 8 [] ?_
   refine iK (.inr rfl) (Ho:=[(0,o.map (·.block),tK 218 r j)]) rfl (.tmp rfl) (.tmp rfl) ⟨rfl,trivial⟩ ?_
   exact Uk (by unfold yF;exact (aL h2).trans ((aL (fun e=>h34 (.inl e))).trans ((aL (fun e=>h34 (.inr e))).trans ((aL (by omega)).trans (aR (.inl h6)))))) hrv2
 have h8:i.op=8:=sV
 refine aK 2 [] ?_
 refine cV 1 fun b1=>?_
 refine aJ 9 [1] ?_
 refine fW (α:=SV) T.sl212 ?_
 refine nY 0 0 T.one218 ?_
 refine aJ 43 [1,0,1,0,1,0,1] ?_
 refine jV 41 ?_
 refine aJ 19 [1,0,1] ?_
 refine jV 53 ?_
 refine aJ 14 [1,1,1] ?_
 refine bV 2 rfl (NM _ i hc1 hc2) fun v1 G1 Ho1 hle1 hp=>?_
 obtain ⟨ri1,rfl,hri1,rfl⟩:=hp
 replace hg:=hg.up hle1
 replace haR:=haR.up hle1
 refine bV 2 rfl (Uj _ _ _ _ _ sW sW m hm2 sW sW hy0 sW) fun v2 G2 Ho2 hle2 hp=>?_
 obtain ⟨rv2,rfl,hrv2,rfl⟩:=hp
 replace hri1:=hri1.up hle2
 replace hg:=hg.up hle2
 replace haR:=haR.up hle2
 refine aW 8 [] ?_
 refine iK (.inr rfl) (Ho:=[(0,o.map (·.block),tK 218 r j)]) rfl (.tmp rfl) (.tmp rfl) ⟨rfl,trivial⟩ ?_
 exact Uk (by unfold yF;exact (aL h2).trans ((aL (fun e=>h34 (.inl e))).trans ((aL (fun e=>h34 (.inr e))).trans ((aL (by omega)).trans (aR (.inr h8)))))) hrv2
end
theorem Hk {m k:Nat} {xs:List Int} {f:Int→Int} (h:∀ x:Int,(x.natAbs:Int)<pw m→((f x).natAbs:Int)<pw k) (hx:Go.Sl.Below m xs):Go.Sl.Below k (xs.map f):=fun z hz=>by
 obtain ⟨x,h1,rfl⟩:=dY.1 hz
 exact h x (hx x h1)
theorem Pb {m k:Nat} {xs ys:List Int} {f:Int→Int→Int} (h:∀ x y:Int,(x.natAbs:Int)<pw m→(y.natAbs:Int)<pw m→((f x y).natAbs:Int)<pw k) (hx:Go.Sl.Below m xs) (hy:Go.Sl.Below m ys):Go.Sl.Below k (List.zipWith f xs ys):=fun z hz=>by
 rw [lD] at hz
 obtain ⟨n,hn,rfl⟩:=hz
 rw [oE]
 exact h _ _ (hx _ (dJ _)) (hy _ (dJ _))
theorem NQ (m:Nat):65536*pw m≤pw (5+m):=by
 rw [←xB];exact Tg sV
theorem Um {i:Sl.Instr} {rs:List (List Int)} {m N:Nat} {x:List Int} (he:Even m N rs) (ha:0≤i.a∧i.a<rs.length) (hb:i.op=3∨i.op=4→0≤i.b∧i.b<rs.length)
 (hz:i.op=5∨i.op=7→((cst i).natAbs:Int)<pw 5) (h:yF i rs=some x):x.length=N∧Go.Sl.Below (5+m) x:=by
 obtain ⟨haL,haB⟩:=he.at ha
 have h5:=NQ m
 have hp:=wQ m
 unfold yF at h
 simp only at h
 split at h
 · cases h
   exact ⟨by rw [bX];exact haL,Hk (fun x hx=>by omega) haB⟩
 split at h
 · rename_i h3
   obtain ⟨hbL,hbB⟩:=he.at (hb (.inl h3))
   cases h
   exact ⟨by rw [iP,haL,hbL,oQ],Pb (fun x y hx hy=>by omega) haB hbB⟩
 split at h
 · rename_i h4
   obtain ⟨hbL,hbB⟩:=he.at (hb (.inr h4))
   cases h
   exact ⟨by rw [iP,haL,hbL,oQ],Pb (fun x y hx hy=>by omega) haB hbB⟩
 split at h
 · rename_i h57
   cases h
   exact ⟨by rw [bX];exact haL,Hk (fun x hx=>Hh (hz h57) hx) haB⟩
 split at h
 · split at h
   · cases h
     refine ⟨by rw [bX];exact haL,Hk (fun x hx=>?_) haB⟩
     have h1:(x / cst i).natAbs≤x.natAbs:=Int.natAbs_ediv_le_natAbs _ _
     omega
   cases h
 cases h
 exact ⟨haL,haB.mono sV⟩
theorem Lh {p:PV} {gs:List (List Int)} {m N:Nat} (hg:Even m N gs) (h0:0<gs.length):Even m N (wU p gs):=fun zs hz=>by
 unfold wU at hz
 obtain ⟨k,hk,rfl⟩:=dY.1 hz
 have hN:=(hg.at (k:=0) sV).1
 split
 · exact hg.at (k:=(k:Int)) sV
 refine ⟨by rw [aE];exact hN,fun z hz=>?_⟩
 rw [jN hz];exact wQ m
theorem Un {m N:Nat} {rs:List (List Int)} {x:List Int} (h:Even m N rs) (hx:x.length=N∧Go.Sl.Below m x) (k:Nat):Even m N (rs.set k x):=fun zs hz=>by
 rcases gX hz with h1 | h1
 · exact h zs h1
 rw [h1];exact hx
theorem Uo {G:Imm} {r:List SV} {rs:List (List Int)} {k:Nat} {s:SV} (h:∀ q:Nat,q<k→yM G (r[q]?.getD default) (rs[q]?.getD [])) (hk:k<r.length) (hs:yM G s (rs[k]?.getD [])):∀ q:Nat,q<k+1→yM G ((r.set k s)[q]?.getD default) (rs[q]?.getD []):=fun q hq=>by
 rw [fD]
 by_cases he:k=q
 · subst he;rw [aR rfl,aR hk];exact hs
 rw [aL he];exact h q sV
theorem Zr {G G':Imm} {r:List SV} {rs:List (List Int)} {k:Nat} (h:∀ q:Nat,q<k→yM G (r[q]?.getD default) (rs[q]?.getD [])) (hl:G.le G'):∀ q:Nat,q<k→yM G' (r[q]?.getD default) (rs[q]?.getD []):=fun q hq=>(h q hq).up hl
theorem DE {p:PV} {rs:List (List Int)} {q:Nat} (hq:q<p.outs.length) :
 (vO p rs).take (q+1)=(vO p rs).take q++[rs[(p.outs[((q:Nat):Int).toNat]?.getD default).toNat]?.getD []]:=by
 have h1:q<(vO p rs).length:=by unfold vO;rw [bX];exact hq
 have h2:(vO p rs)[q]=rs[(p.outs[q]).toNat]?.getD []:=iW _
 rw [mY h1,h2,aF,aB hq];rfl
section
attribute [local irreducible] sZ pw tQ p2
theorem TN (G:Imm) (p:PV) (ac ao ga:Option Addr) (cc co gc:Nat) (gl:List SV) (gs:List (List Int)) (N:Nat) (hc:Arr G ac p.code) (ho:Arr G ao p.outs) (hga:Arr G ga gl) (hgg:Grid G gl gs) (hev:Even 4 N gs) (hN:N≤1048576) (hR:tG p=true) (hgi:(gl.length:Int)=p.ins) (hcl:p.code.length≤16384) :
 Does Tryz.prog 133 [.agg #[.int .i64 p.ins,.int .i64 p.regs,.slice ac p.code.length cc,.slice ao p.outs.length co],.slice ga gl.length gc] G [] (fun v G' Ho=>∃ sv bad ov,v=.tuple #[sv,.int .i64 bad,ov]∧(tR p gs=none→0≤bad∧ov=.slice none 0 0)∧
  (∀ os,tR p gs=some os→bad=-1∧∃ (oa:Option Addr) (oc:Nat) (ol:List SV),ov=.slice oa ol.length oc∧Arr G' oa ol∧Grid G' ol os)∧Ho=[]):=by
 obtain ⟨f1,f2,f3,f4,f5,f6,f7,f8⟩:=wT hR
 have hgl:=hgg.1
 obtain ⟨R,hRR⟩:∃ R:Nat,p.regs=(R:Int):=⟨p.regs.toNat,by omega⟩
 refine D0 Tryz.func133 Tryz.ntmps133 fun w=>?_
 have hM:p.regs.toNat=R:=sV
 have hrl0:=Cn p gs
 rw [hM] at hrl0
 have hgl0:0<gl.length:=sV
 have h0R:=hgg.at (m:=0) sV
 obtain ⟨h0L,h0B⟩:=hev.at (k:=0) sV
 have h0n:(gl[(0:Int).toNat]?.getD default).n≤1048576:=by rw [h0R.len,h0L];exact hN
 refine aK 2 [] ?_
 refine cV 0 fun b1=>?_
 refine aJ 9 [0] ?_
 refine iC (α:=SV) 1 rfl T.sl212 T.el218 rfl rfl sV sV fun b2=>?_
 refine bJ 10 [] ?_
 rw [hM]
 have hown:∀ r:List SV,r.length=R→OwnA (some ⟨b2,0,none⟩) R r []:=fun r hr=>.inr ⟨b2,rfl,by rw [hr];rfl,by omega,by simp only [maxLen];omega⟩
 refine jE 7 rfl (show _=Value.slice (some ⟨b2,0,none⟩) (List.replicate R (default:SV)).length R by rw [aE]) ?_
 refine rX (ι:=Nat×Imm×List SV) (fun (k,Gx,r)=>([(8,.int .i64 (k:Int)),(7,.slice (some ⟨b2,0,none⟩) r.length R),(6,.slice none 0 0),(5,.int .i64 0),(4,.slice none 0 0),(2,.pointer (some ⟨b1,0,none⟩)),(1,.slice ga (List.length gl) gc)],[(1,some b2,tK 218 r []),(0,some b1,.cells #[.int .i64 p.ins,.int .i64 p.regs,.slice ac p.code.length cc,.slice ao p.outs.length co] 26)])) (fun (k,Gx,r)=>Gx) (fun (k,Gx,r)=>k≤R∧G.le Gx∧r.length=R∧∀ q:Nat,q<k→yM Gx (r[q]?.getD default) ((wU p gs)[q]?.getD [])) (fun (k,Gx,r)=>R - k) ((0,G,List.replicate R (default:SV))) (⟨aU _,cA _,aE,fun q hq=>by omega⟩) fun ⟨k,Gx,r⟩=>fun hk=>?_
 obtain ⟨hk0,hgx,hrR,hrow⟩:=hk
 replace hc:=hc.up hgx
 replace ho:=ho.up hgx
 replace hga:=hga.up hgx
 replace hgg:=hgg.up hgx
 have hor:=hown r hrR
 rcases aM k R with hkR | hkR
 · by_cases hkg:k<gl.length
   · refine aK 19 [0,1] ?_
     refine dP (α:=SV) T.sl212 ?_
     refine eK rfl (dZ T.one218 rfl (kG sW sV 0 rfl rfl)) ?_
     refine eK rfl (Qy.len T.sl218 rfl) ?_
     refine bV 2 rfl (TM _ _ sW) fun v1 G1 Ho1 hle1 hp=>?_
     obtain ⟨⟨zo1,zc1,zl1,rfl,hzA1,hzN1,hzl1⟩,rfl⟩:=hp
     replace hc:=hc.up hle1
     replace ho:=ho.up hle1
     replace hga:=hga.up hle1
     replace hgg:=hgg.up hle1
     refine fW (α:=SV) T.sl212 ?_
     refine eX (z:=⟨zo1,zl1.length,zc1⟩) 1 T.size218 rfl rfl rfl sW sV rfl fun ho1=>?_
     refine aJ 16 [1] ?_
     refine dP (α:=SV) T.sl212 ?_
     refine fQ 0 T.one218 ?_
     refine fW (α:=SV) T.sl212 ?_
     refine eX (z:=gl[(k:Int).toNat]?.getD default) 1 T.size218 rfl rfl rfl sW (by rw [aH];omega) rfl fun ho2=>?_
     refine aW 8 [] ?_
     rw [aF,List.set_set]
     refine cZ 7 rfl (show _=Value.slice (some ⟨b2,0,none⟩) (r.set k (gl[k]?.getD default)).length R by rw [aH]) ?_
     refine cS ((k+1,G1,r.set k (gl[k]?.getD default))) ?_ ?_
     · refine ⟨by omega,aZ hgx hle1,by rw [aH];exact hrR,Uo (Zr hrow hle1) sV ?_⟩
       rw [Fa sV,aR (by omega)]
       exact hgg.2 k hkg
     show R - (k+1)<R - k
     omega
   refine aK 19 [0,1] ?_
   refine dP (α:=SV) T.sl212 ?_
   refine eK rfl (dZ T.one218 rfl (kG sW sV 0 rfl rfl)) ?_
   refine eK rfl (Qy.len T.sl218 rfl) ?_
   refine bV 2 rfl (TM _ _ sW) fun v1 G1 Ho1 hle1 hp=>?_
   obtain ⟨⟨zo1,zc1,zl1,rfl,hzA1,hzN1,hzl1⟩,rfl⟩:=hp
   replace hc:=hc.up hle1
   replace ho:=ho.up hle1
   replace hga:=hga.up hle1
   replace hgg:=hgg.up hle1
   refine fW (α:=SV) T.sl212 ?_
   refine eX (z:=⟨zo1,zl1.length,zc1⟩) 1 T.size218 rfl rfl rfl sW sV rfl fun ho1=>?_
   refine aW 19 [0] ?_
   rw [aF]
   refine cZ 7 rfl (show _=Value.slice (some ⟨b2,0,none⟩) (r.set k (⟨zo1,zl1.length,zc1⟩:SV)).length R by rw [aH]) ?_
   refine cS ((k+1,G1,r.set k (⟨zo1,zl1.length,zc1⟩:SV))) ?_ ?_
   · refine ⟨by omega,aZ hgx hle1,by rw [aH];exact hrR,Uo (Zr hrow hle1) sV ?_⟩
     rw [Fa sV,aL (by omega)]
     refine ⟨zl1,rfl,hzl1,hzA1,?_⟩
     have e:=hzN1
     rw [h0R.len] at e
     exact e
   show R - (k+1)<R - k
   omega
 have hg0:Grid Gx r (wU p gs):=⟨by omega,fun q hq=>hrow q sV⟩
 have he0:Even 4 N (wU p gs):=Lh hev sV
 refine cF 27 [0,0] ?_
 refine fO 3 (tK 218 ([]:List SV) []) ?_
 refine jQ (ι:=Nat×Imm×List SV×List (List Int)×List SV×(Option Addr×Nat×List Value)) (fun (i,Gy,r2,rs,st,(o,d,j))=>([(10,.int .i64 (i:Int)),(9,.slice o st.length d),(7,.slice (some ⟨b2,0,none⟩) r2.length R),(2,.pointer (some ⟨b1,0,none⟩))],[(3,o.map (·.block),tK 218 st j),(1,some b2,tK 218 r2 []),(0,some b1,.cells #[.int .i64 p.ins,.int .i64 p.regs,.slice ac p.code.length cc,.slice ao p.outs.length co] 26)])) (fun (i,Gy,r2,rs,st,(o,d,j))=>Gy) (fun (i,Gy,r2,rs,st,(o,d,j))=>i≤p.code.length∧Gx.le Gy∧r2.length=R∧Grid Gy r2 rs∧Even (4+5*i) N rs∧yD p gs i=some rs∧OwnA o d st j∧st.length=i) (fun (i,Gy,r2,rs,st,(o,d,j))=>p.code.length - i) ((0,Gx,r,wU p gs,[],(none,0,[]))) (⟨aU _,cA _,hrR,hg0,he0,rfl,eW,rfl⟩) rfl ⟨rfl,rfl,rfl,rfl,trivial⟩ ⟨rfl,rfl,rfl,trivial⟩ fun ⟨i,Gy,r2,rs,st,(o,d,j)⟩=>fun hk=>?_
 obtain ⟨hi0,hgy,hr2,hg2,he2,hrun,hob,hst⟩:=hk
 replace hc:=hc.up hgy
 replace ho:=ho.up hgy
 have hor2:=hown r2 hr2
 have hg2l:=hg2.1
 rcases aM i p.code.length with hic | hic
 · have hmem:(p.code[(i:Int).toNat]?.getD default)∈p.code:=by
    rw [aF,aB hic];exact dJ hic
   obtain ⟨m1,m2,m3,m4,m5,m6,m7,m8⟩:=Hg (f8 _ hmem)
   have m3':0≤(p.code[(i:Int).toNat]?.getD default).a∧(p.code[(i:Int).toNat]?.getD default).a<r2.length:=sV
   have m2':0≤(p.code[(i:Int).toNat]?.getD default).to∧(p.code[(i:Int).toNat]?.getD default).to<r2.length:=sV
   have he9:=Even.at he2 (k:=(p.code[(i:Int).toNat]?.getD default).a) sV
   obtain ⟨ci,hci⟩:∃ ci,ci=p.code[(i:Int).toNat]?.getD default:=⟨_,rfl⟩
   refine aK 20 [0,1,0] ?_
   refine dP (α:=Sl.Instr) T.sl23 ?_
   refine mM T.agg211 ?_
   refine aA 1 [] ?_
   refine bV 1 rfl (ZE _ (p.code[(i:Int).toNat]?.getD default) (some ⟨b2,0,none⟩) R r2 [] rs (4+5*i) N hor2 hg2 he2 hN sV m1 m3' (fun h=>by have:=m4 h;omega) m5 sV m6 m7 m8) fun v1 G1 Ho1 hle1 hp=>?_
   obtain ⟨rv,rfl,hrv,rfl⟩:=hp
   by_cases hd:yF (p.code[((i:Nat):Int).toNat]?.getD default) rs=none
   · have hd2:¬yF (p.code[(i:Int).toNat]?.getD default) rs≠none:=fun h=>h hd
     refine aJ 11 [] ?_
     refine aN (dK rfl) ?_
     refine aW 19 [1] ?_
     refine rG (.inr rfl) (Ho:=[]) rfl (.tmp rfl) (.tmp rfl) (.tmp rfl) trivial ?_
     have hfn:=Lg hrun hd hic
     exact ⟨_,(i:Int),_,rfl,fun _=>⟨kB i,rfl⟩,fun os h=>(by rw [hfn] at h;cases h),rfl⟩
   obtain ⟨zs,hzs⟩:=Option.ne_none_iff_exists'.1 hd
   obtain ⟨s,rfl,hs⟩:=hrv zs hzs
   have hok:yF (p.code[(i:Int).toNat]?.getD default) rs≠none:=hd
   replace hc:=hc.up hle1
   replace ho:=ho.up hle1
   replace hg2:=hg2.up hle1
   refine aJ 11 [] ?_
   refine aN (dK rfl) ?_
   refine bJ 2 [] ?_
   refine dN (fun hc1=>?_) fun hc1=>?_
   refine bE 16 [] ?_
   rotate_left
   refine aK 8 [0] ?_
   refine dP (α:=Sl.Instr) T.sl23 ?_
   refine aA 1 [] ?_
   refine fQ 1 T.one3 ?_
   refine aA 1 [] ?_
   refine fW (α:=SV) T.sl212 ?_
   refine eX (z:=_) 1 T.size218 rfl rfl rfl sW sV rfl fun ho1=>?_
   refine aJ 5 [] ?_
   refine fF (α:=SV) 4 [⟨_,_,_⟩] rfl T.sl212 T.el218 rfl rfl rfl rfl rfl fun b3=>?_
   refine kO (α:=SV) 3 T.sl212 T.el218 (fZ 4 rfl) fun a2 c2 junk2 ho2=>?_
   refine aW 9 [] ?_
   rotate_left
   · exact absurd hok hc1
   refine cZ 7 rfl (show _=Value.slice (some ⟨b2,0,none⟩) (r2.set (p.code[(i:Int).toNat]?.getD default).to.toNat s).length R by rw [aH]) ?_
   refine cS ((i+1,G1,r2.set (p.code[(i:Int).toNat]?.getD default).to.toNat s,rs.set (p.code[(i:Int).toNat]?.getD default).to.toNat zs,st++[s],(a2,c2,junk2))) ?_ ?_
   · have hx:=Um (i:=p.code[(i:Int).toNat]?.getD default) he2 sV (fun h=>by have:=m4 h;omega) (fun h=>(m6 sV sV sV sV).2) hzs
     refine ⟨by omega,aZ hgy hle1,by rw [aH];exact hr2,hg2.set _ hs,?_,Dl (x:=[]) hrun hzs,by assumption,by rw [aI];show st.length+1=i+1;omega⟩
     rw [show 4+5*(i+1)=5+(4+5*i) by omega]
     exact Un (he2.mono sV) hx _
   show p.code.length - (i+1)<p.code.length - i
   omega
 have hie:i=p.code.length:=sV
 subst hie
 have hfo:tR p gs=some (vO p rs):=by unfold tR;rw [hrun];rfl
 have hol:(vO p rs).length=p.outs.length:=by unfold vO;rw [bX]
 refine cF 28 [0,0] ?_
 refine fO 4 (tK 218 ([]:List SV) []) ?_
 refine qA (ι:=Nat×List SV×(Option Addr×Nat×List Value)) (fun (q,ol,(oo,od,oj))=>([(14,.int .i64 (q:Int)),(13,.slice oo ol.length od),(9,.slice o (List.length st) d),(7,.slice (some (Addr.mk b2 0 none)) (List.length r2) R),(2,.pointer (some ⟨b1,0,none⟩))],[(4,oo.map (·.block),tK 218 ol oj),(3,Option.map (fun x=>Go.Addr.block x) o,tK (α:=Go.Sl.SV) 218 (st) (j)),(1,some b2,tK (α:=Go.Sl.SV) 218 (r2) ([])),(0,some b1,.cells #[.int .i64 p.ins,.int .i64 p.regs,.slice ac p.code.length cc,.slice ao p.outs.length co] 26)])) (fun (q,ol,(oo,od,oj))=>q≤p.outs.length∧ol.length=q∧Grid Gy ol ((vO p rs).take q)∧OwnA oo od ol oj) (fun (q,ol,(oo,od,oj))=>p.outs.length - q) ((0,[],(none,0,[]))) (⟨aU _,rfl,by rw [bN];exact Grid.nil _,eW⟩) ⟨rfl,rfl,rfl,rfl,rfl,trivial⟩ ⟨rfl,rfl,rfl,rfl,trivial⟩ fun ⟨q,ol,(oo,od,oj)⟩=>fun hk=>?_
 obtain ⟨hq0,hql,hqg,hqo⟩:=hk
 rcases aM q p.outs.length with hqc | hqc
 · have hmem:(p.outs[(q:Int).toNat]?.getD default)∈p.outs:=by
    rw [aF,aB hqc];exact dJ hqc
   have hrr:=f7 _ hmem
   have hrr2:0≤(p.outs[(q:Int).toNat]?.getD default)∧(p.outs[(q:Int).toNat]?.getD default)<r2.length:=sV
   have hss:=hg2.at hrr2
   refine aK 21 [0,1,0] ?_
   refine dP (α:=Int) T.sl24 ?_
   refine fQ 0 T.one3 ?_
   refine fW (α:=SV) T.sl212 ?_
   refine nY 1 0 T.one218 ?_
   refine fF (α:=SV) 5 [⟨_,_,_⟩] rfl T.sl212 T.el218 rfl rfl rfl rfl rfl fun b3=>?_
   refine kO (α:=SV) 4 T.sl212 T.el218 (fZ 5 rfl) fun a1 c1 junk1 ho1=>?_
   refine aW 9 [] ?_
   refine cS ((q+1,ol++[r2[(p.outs[(q:Int).toNat]?.getD default).toNat]?.getD default],(a1,c1,junk1))) ?_ ?_
   · exact ⟨by omega,by rw [aI];show ol.length+1=q+1;omega,by rw [DE hqc];exact hqg.snoc hss,by assumption⟩
   show p.outs.length - (q+1)<p.outs.length - q
   omega
 refine bE 26 [0,0] ?_
 rw [dD sV] at hqg
 refine eE 4 rfl hqo fun G9 hle9 hA=>?_
 refine rG (.inr rfl) (Ho:=[]) rfl (.tmp rfl) (.tmp rfl) (.tmp rfl) trivial ?_
 exact ⟨_,-1,_,rfl,fun h=>(by rw [hfo] at h;cases h),fun os h=>(by rw [hfo] at h;cases h;exact ⟨rfl,oo,od,ol,rfl,hA,hqg.up hle9⟩),rfl⟩
end
def Bigs (G:Imm) (l:List IV) (zs:List Int):Prop:=l.length=zs.length∧∀ i:Nat,i<l.length→Big G (l[i]?.getD default) (zs[i]?.getD 0)
theorem Bigs.up {G G':Imm} {l:List IV} {zs:List Int} (h:Bigs G l zs) (hl:G.le G'):Bigs G' l zs:=⟨h.1,fun i hi=>(h.2 i hi).up hl⟩
theorem Bigs.at {G:Imm} {l:List IV} {zs:List Int} (h:Bigs G l zs) {k:Int} (hk:0≤k∧k<l.length):Big G (l[k.toNat]?.getD default) (zs[k.toNat]?.getD 0):=h.2 _ sV
theorem Bigs.set {G:Imm} {l:List IV} {zs:List Int} (h:Bigs G l zs) (k:Nat) {x:IV} {z:Int} (hx:Big G x z):Bigs G (l.set k x) (zs.set k z):=by
 refine ⟨by rw [aH,aH];exact h.1,fun i hi=>?_⟩
 rw [aH] at hi
 rw [fD,fD]
 have h1:=h.1
 by_cases hk:k=i
 · subst hk
   rw [aR rfl,aR rfl,aR hi,aR (by omega)];exact hx
 rw [aL hk,aL hk];exact h.2 i hi
theorem Xk (G:Imm) (n:Nat):Bigs G (List.replicate n (default:IV)) (List.replicate n 0):=by
 refine ⟨by rw [aE,aE],fun i hi=>?_⟩
 rw [aE] at hi
 rw [fP,fP,aR hi,aR hi]
 exact Big.zero G
abbrev rR:=@Xk
def Below (m:Nat) (zs:List Int):Prop:=∀ z∈zs,(z.natAbs:Int)<pb m
theorem Below.at {m:Nat} {zs:List Int} (h:Below m zs) (k:Nat):((zs[k]?.getD 0).natAbs:Int)<pb m:=by
 rcases aM k zs.length with h1 | h1
 · rw [aB h1];exact h _ (dJ h1)
 rw [cQ h1];exact xC m
theorem QP:((1:Int).natAbs:Int)<pb 1:=by unfold pb;decide
theorem QQ (n:Nat):p2 n=((2 ^ n:Nat):Int):=rfl
theorem Li {z:Int}:Ck z=0↔z=0:=by
 unfold Ck
 split
 · simp [*]
 split <;> omega
theorem Xl {x y:Int} (hy:y≠0):((x % y).natAbs:Int)<y.natAbs:=by
 have e1:=iM x hy
 rcases Int.lt_or_gt_of_ne hy with h | h
 · have e2:=eF x (show 0 < -y by omega)
   rw [Int.emod_neg] at e2
   omega
 have e2:=eF x h
 omega
section
attribute [local irreducible] sX pb tQ tN p2
theorem ZF (G:Imm) (n:Nat) (hn:n≤64) :
 Does Tryz.prog 317 [.int .i64 (n:Int)] G [] (fun v G' Ho=>∃ r:IV,v=.agg (Cells.enc r).toArray∧Big G' r (p2 n)∧Ho=[]):=by
 refine D0 Tryz.func317 Tryz.ntmps317 fun w=>?_
 refine aK 2 [] ?_
 refine aQ 0 rfl T.zero89 fun b1=>?_
 refine aJ 4 [] ?_
 refine bV 1 rfl (LK _ _ sV) fun v1 G1 Ho1 hle1 hp=>?_
 obtain ⟨ro1,rfl,hro1,rfl⟩:=hp
 refine aA 1 [] ?_
 refine kD 7 rfl (show _=Value.int .i64 ((32*(n / 32)+n % 32:Nat):Int) by rw [gU]) ?_
 refine bV 20 rfl (c56 _ ro1 1 (n / 32) (n % 32) hro1 (aO (iR hro1 QP) tF) (nQ _ tF) sV) fun v9 G9 Ho9 hle9 hp=>?_
 obtain ⟨r9,rfl,hr9,rfl⟩:=hp
 refine aA 3 [] ?_
 refine aQ 1 rfl T.zero89 fun b2=>?_
 refine aW 11 [1,1,0] ?_
 refine dL (.inr rfl) (Ho:=Hp.only _ []) rfl (.agg 0 rfl rfl T.agg89) (bK _ _) ?_
 exact ⟨r9,rfl,Big.out hr9 (by rw [gU,fH,QQ]),rfl⟩
end
def uO (a b:Int):Prop:=-16≤a∧a≤16∧-16≤b∧b≤16
instance (a b:Int):Decidable (uO a b):=inferInstanceAs (Decidable (_∧_))
theorem TO (G:Imm) (n:Int):Does Tryz.prog 205 [.int .i64 n] G [] (fun v G' Ho=>v=.bool (decide (-16≤n∧n≤16))∧G'=G∧Ho=[]):=by
 refine D0 Tryz.func205 Tryz.ntmps205 fun w=>?_
 refine aK 10 [] ?_
 apply cW 3 5 8 rfl
 intro hg1
 refine aA 5 [] ?_
 exact cU 3 0
 intro hg1
 refine aA 3 [] ?_
 exact cU 3 0
 refine aW 4 [] ?_
 refine bO ?_
 exact ⟨rfl,rfl,rfl⟩
theorem ZG (G:Imm) (n:Int) (h:-9223372036854775807≤n):Does Tryz.prog 316 [.int .i64 n] G [] (fun v G' Ho=>v=.int .i64 (n.natAbs:Int)∧G'=G∧Ho=[]):=by
 refine D0 Tryz.func316 Tryz.ntmps316 fun w=>?_
 refine cF 12 [] ?_
 refine dN (fun hc1=>?_) fun hc1=>?_
 refine aK 3 [] ?_
 refine aN (Qy.neg rfl sV) ?_
 refine aW 5 [] ?_
 refine bO ?_
 rotate_left
 refine bE 9 [] ?_
 refine bO ?_
 rotate_left
 · exact ⟨by congr 1;omega,rfl,rfl⟩
 exact ⟨by congr 1;omega,rfl,rfl⟩
theorem ZH (G:Imm) (a b:Int) (h1:-4611686018427387904≤a∧a≤4611686018427387904) (h2:-4611686018427387904≤b∧b≤4611686018427387904):Does Tryz.prog 290 [.int .i64 a,.int .i64 b] G [] (fun v G' Ho=>v=.int .i64 (Int.gcd a b:Int)∧G'=G∧Ho=[]):=by
 refine D0 Tryz.func290 Tryz.ntmps290 fun w=>?_
 refine cF 7 [] ?_
 refine gC (ι:=Int×Int) (fun (x,y)=>([(0,.int .i64 x),(1,.int .i64 y),(4,.int .i64 0)],[])) (fun (x,y)=>Int.gcd x y=Int.gcd a b∧(-4611686018427387904≤x∧x≤4611686018427387904)∧(-4611686018427387904≤y∧y≤4611686018427387904)) (fun (x,y)=>y.natAbs) ((a,b)) (⟨rfl,h1,h2⟩) fun ⟨x,y⟩=>fun hk=>?_
 obtain ⟨hg,hx,hy⟩:=hk
 refine cF 7 [] ?_
 refine dN (fun hc1=>?_) fun hc1=>?_
 refine cF 3 [] ?_
 refine eB [] [] T.mixed [[0],[1],[2]] ?_
 refine gD 3 [] rfl (Qy.rem rfl rfl sV) ?_
 refine eJ [[4],[5]] ?_
 refine dV ?_
 refine sI ?_
 rotate_left
 refine aK 8 [] ?_
 refine bW rfl (ZG _ _ sV) ?_
 refine aW 4 [] ?_
 refine bO ?_
 rotate_left
 · have e:=Int.natAbs_tmod x y
   have hyp:0<y.natAbs:=sV
   have e2:=nQ x.natAbs hyp
   have e3:=Nat.mod_le x.natAbs y.natAbs
   refine cS ((y,x.tmod y)) ?_ ?_
   · refine ⟨?_,hy,by omega⟩
     rw [←hg]
     show Nat.gcd y.natAbs (x.tmod y).natAbs=Nat.gcd x.natAbs y.natAbs
     rw [e,Nat.gcd_comm,←Nat.gcd_rec,Nat.gcd_comm]
   show (x.tmod y).natAbs<y.natAbs
   omega
 refine ⟨?_,rfl,rfl⟩
 rw [←hg]
 have e:y=0:=sV
 subst e
 rw [Int.gcd_zero_right]
theorem ZI (G:Imm) (a b:Int):Does Tryz.prog 164 [.agg #[.int .i64 a,.int .i64 b]] G [] (fun v G' Ho=>v=.bool (decide (uO a b))∧G'=G∧Ho=[]):=by
 refine D0 Tryz.func164 Tryz.ntmps164 fun w=>?_
 refine aK 2 [] ?_
 refine cV 0 fun b1=>?_
 refine aJ 7 [0] ?_
 refine bW rfl (by apply TO <;> first | assumption | omega | rfl) ?_
 refine aA 1 [] ?_
 apply cW 4 6 10 rfl
 intro hg1
 refine aA 5 [0] ?_
 refine bW rfl (by apply TO <;> first | assumption | omega | rfl) ?_
 refine aA 1 [] ?_
 exact cU 4 0
 intro hg1
 refine aA 4 [] ?_
 exact cU 4 0
 refine aW 4 [] ?_
 refine bO ?_
 exact ⟨by congr 1;exact decide_eq_decide.mpr (by unfold uO;omega),rfl,rfl⟩
theorem TP (G:Imm) (a b:Int):Does Tryz.prog 166 [.agg #[.int .i64 a,.int .i64 b]] G [] (fun v G' Ho=>v=.bool (decide (a=0∧b=0))∧G'=G∧Ho=[]):=by
 refine D0 Tryz.func166 Tryz.ntmps166 fun w=>?_
 refine aK 2 [] ?_
 refine cV 0 fun b1=>?_
 refine aJ 6 [0] ?_
 refine aN (fB (cs:=[_,_]) T.st51 rfl rfl rfl) ?_
 refine aN (Ek [_,_] [_,_] T.ai51 rfl rfl rfl rfl) ?_
 refine aW 4 [] ?_
 refine bO ?_
 exact ⟨by congr 1;exact decide_eq_decide.mpr tS,rfl,rfl⟩
theorem ZJ (G:Imm) (a b:Int):Does Tryz.prog 129 [.agg #[.int .i64 a,.int .i64 b]] G [] (fun v G' Ho=>v=.bool (decide (uO a b))∧G'=G∧Ho=[]):=by
 refine D0 Tryz.func129 Tryz.ntmps129 fun w=>?_
 refine aK 2 [] ?_
 refine cV 0 fun b1=>?_
 refine aJ 9 [0] ?_
 apply cW 4 6 10 rfl
 intro hg1
 refine aA 7 [0] ?_
 exact cU 4 0
 intro hg1
 refine aA 4 [] ?_
 exact cU 4 0
 refine aA 1 [] ?_
 apply cW 4 11 15 rfl
 intro hg1
 refine aA 7 [0] ?_
 exact cU 4 0
 intro hg1
 refine aA 4 [] ?_
 exact cU 4 0
 refine aA 1 [] ?_
 apply cW 4 16 20 rfl
 intro hg1
 refine aA 7 [0] ?_
 exact cU 4 0
 intro hg1
 refine aA 4 [] ?_
 exact cU 4 0
 refine aW 4 [] ?_
 refine bO ?_
 exact ⟨by congr 1;exact decide_eq_decide.mpr (by unfold uO;omega),rfl,rfl⟩
theorem ZK (G:Imm) (a b:Int):Does Tryz.prog 130 [.agg #[.int .i64 a,.int .i64 b]] G [] (fun v G' Ho=>v=.bool (decide (a=0∧b=0))∧G'=G∧Ho=[]):=by
 refine D0 Tryz.func130 Tryz.ntmps130 fun w=>?_
 refine aK 2 [] ?_
 refine cV 0 fun b1=>?_
 refine aJ 9 [0] ?_
 apply cW 4 6 10 rfl
 intro hg1
 refine aA 7 [0] ?_
 exact cU 4 0
 intro hg1
 refine aA 4 [] ?_
 exact cU 4 0
 refine aW 4 [] ?_
 refine bO ?_
 exact ⟨rfl,rfl,rfl⟩
def uW (a b:Int):Int:=if b<0∨(b=0∧a<0) then -(Int.gcd a b:Int) else (Int.gcd a b:Int)
def Zs (a b:Int):Int×Int:=if a=0∧b=0 then (a,b) else (a.tdiv (uW a b),b.tdiv (uW a b))
theorem Fb (a g:Int):-(a.natAbs:Int)≤a.tdiv g∧a.tdiv g≤a.natAbs:=by
 have h:(a.tdiv g).natAbs=a.natAbs / g.natAbs:=Int.natAbs_tdiv a g
 have h2:=Nat.div_le_self a.natAbs g.natAbs
 omega
theorem TQ (G:Imm) (a b:Int) (h1:-4611686018427387904≤a∧a≤4611686018427387904) (h2:-4611686018427387904≤b∧b≤4611686018427387904):Does Tryz.prog 248 [.agg #[.int .i64 a,.int .i64 b]] G [] (fun v G' Ho=>v=.agg #[.int .i64 (Zs a b).1,.int .i64 (Zs a b).2]∧G'=G∧Ho=[]):=by
 refine D0 Tryz.func248 Tryz.ntmps248 fun w=>?_
 have hga:=Int.gcd_dvd_left a b
 have hgb:=Int.gcd_dvd_right a b
 have hgm:(Int.gcd a b:Int)≤4611686018427387904:=by
  by_cases h:a=0
  · subst h;rw [Int.gcd_zero_left];omega
  have:=Int.le_of_dvd (show 0<(a.natAbs:Int) by omega) (Int.dvd_natAbs.mpr hga);omega
 have q1:=Fb a (Int.gcd a b:Int)
 have q2:=Fb b (Int.gcd a b:Int)
 have q3:=Fb a (-(Int.gcd a b:Int))
 have q4:=Fb b (-(Int.gcd a b:Int))
 refine aK 2 [] ?_
 refine cV 0 fun b1=>?_
 refine aQ 1 rfl T.zero51 fun b2=>?_
 refine aJ 8 [0,0] ?_
 refine bW rfl (ZH _ _ _ sV sV) ?_
 refine bJ 12 [] ?_
 refine dN (fun hc1=>?_) fun hc1=>?_
 refine bE 9 [0,1] ?_
 refine dL (.inr rfl) (Ho:=Hp.only _ []) rfl (.agg 1 rfl rfl T.agg51) (bK _ _) ?_
 rotate_left
 refine cF 9 [0] ?_
 refine dN (fun hc2=>?_) fun hc2=>?_
 refine aK 5 [1] ?_
 refine aN (Qy.neg rfl sV) ?_
 refine bJ 5 [] ?_
 refine eB [0,1] [(1,9)] T.mixed [[0],[1,0],[2]] ?_
 refine gD 3 [] rfl (Qy.quo rfl rfl sV sV) ?_
 refine eJ [[4],[5,0],[6]] ?_
 refine gD 7 [] rfl (Qy.quo rfl rfl sV sV) ?_
 refine gD 8 [] rfl (fB (cs:=[_,_]) T.st51 rfl rfl rfl) ?_
 refine fE 9 ?_
 refine aA 1 [1] ?_
 refine fV ?_
 refine gZ 2 [] ?_
 refine dL (.inr rfl) (Ho:=Hp.only _ []) rfl (.agg 1 rfl rfl T.agg51) (bK _ _) ?_
 rotate_left
 refine aK 5 [0] ?_
 apply cW 4 20 24 rfl
 intro hg1
 refine aA 7 [0] ?_
 exact cU 4 0
 intro hg1
 refine aA 4 [] ?_
 exact cU 4 0
 refine bJ 3 [] ?_
 refine dN (fun hc3=>?_) fun hc3=>?_
 refine aK 2 [] ?_
 refine aN (Qy.neg rfl sV) ?_
 refine bJ 5 [] ?_
 refine eB [0,1] [(1,9)] T.mixed [[0],[1,0],[2]] ?_
 refine gD 3 [] rfl (Qy.quo rfl rfl sV sV) ?_
 refine eJ [[4],[5,0],[6]] ?_
 refine gD 7 [] rfl (Qy.quo rfl rfl sV sV) ?_
 refine gD 8 [] rfl (fB (cs:=[_,_]) T.st51 rfl rfl rfl) ?_
 refine fE 9 ?_
 refine aA 1 [1] ?_
 refine fV ?_
 refine gZ 2 [] ?_
 refine dL (.inr rfl) (Ho:=Hp.only _ []) rfl (.agg 1 rfl rfl T.agg51) (bK _ _) ?_
 rotate_left
 refine cF 4 [] ?_
 refine eB [0,1] [(1,9)] T.mixed [[0],[1,0],[2]] ?_
 refine gD 3 [] rfl (Qy.quo rfl rfl sV sV) ?_
 refine eJ [[4],[5,0],[6]] ?_
 refine gD 7 [] rfl (lX rfl rfl sV) ?_
 refine gD 8 [] rfl (fB (cs:=[_,_]) T.st51 rfl rfl rfl) ?_
 refine fE 9 ?_
 refine aA 1 [1] ?_
 refine fV ?_
 refine gZ 2 [] ?_
 refine dL (.inr rfl) (Ho:=Hp.only _ []) rfl (.agg 1 rfl rfl T.agg51) (bK _ _) ?_
 rotate_left
 · obtain ⟨ea,eb⟩:=Int.gcd_eq_zero_iff.mp (show Int.gcd a b=0 by omega)
   exact ⟨by unfold Zs;rw [aR ⟨ea,eb⟩],rfl,rfl⟩
 · have hn:¬(a=0∧b=0):=sV
   exact ⟨by unfold Zs uW;rw [aL hn,aR (by omega)],rfl,rfl⟩
 · have hn:¬(a=0∧b=0):=sV
   exact ⟨by unfold Zs uW;rw [aL hn,aR (by omega)],rfl,rfl⟩
 have hn:¬(a=0∧b=0):=fun h=>hc1 (by rw [h.1,h.2];rfl)
 exact ⟨by unfold Zs uW;rw [aL hn,aL (by omega),Int.tdiv_eq_ediv_of_nonneg (a:=b) sV],rfl,rfl⟩
def same (a b c d:Int):Prop:=Zs a b=Zs c d
instance (a b c d:Int):Decidable (same a b c d):=inferInstanceAs (Decidable (_=_))
theorem ZL (G:Imm) (a b c d:Int):Does Tryz.prog 207 [.agg #[.int .i64 a,.int .i64 b],.agg #[.int .i64 c,.int .i64 d]] G [] (fun v G' Ho=>v=.tuple #[.bool (decide (uO a b∧uO c d∧same a b c d)),.int .i64 (if uO a b∧uO c d then 0 else 2)]∧G'=G∧Ho=[]):=by
 refine D0 Tryz.func207 Tryz.ntmps207 fun w=>?_
 refine aK 2 [] ?_
 refine cV 0 fun b1=>?_
 refine cV 1 fun b2=>?_
 refine aJ 8 [0] ?_
 refine bW rfl Og ?_
 refine aN (dK rfl) ?_
 refine aA 1 [] ?_
 apply bZ 4 9 13 rfl
 intro hg1
 refine aA 3 [1] ?_
 refine bW rfl Og ?_
 refine aA 1 [] ?_
 refine aN (dK rfl) ?_
 refine aA 1 [] ?_
 exact cU 4 0
 intro hg1
 refine aA 4 [] ?_
 exact cU 4 0
 refine bJ 2 [] ?_
 refine dN (fun hc1=>?_) fun hc1=>?_
 refine bE 8 [] ?_
 refine eG ?_
 rotate_left
 refine cF 3 [] ?_
 refine eB [0,1] [] T.mixed [[0,0],[2,1]] ?_
 refine fE 1 ?_
 refine bW rfl (TQ _ _ _ Oj Oj) ?_
 refine bT 3 ?_
 refine bW rfl (TQ _ _ _ Oj Oj) ?_
 refine dW ?_
 refine gD 4 [] rfl (Ek [_,_] [_,_] T.ai51 rfl rfl rfl rfl) ?_
 refine eJ [[5],[6]] ?_
 refine dV ?_
 refine gZ 2 [] ?_
 refine eG ?_
 rotate_left
 · exact ⟨by rw [aL (by unfold uO at *;omega),bF (fun h=>absurd (And.intro h.1 h.2.1) Oj)],rfl,rfl⟩
 refine ⟨?_,rfl,rfl⟩
 rw [aR (by unfold uO at *;omega)]
 congr 4
 exact decide_eq_decide.mpr (by unfold same uO at *;rw [Prod.ext_iff];simp;omega)
theorem Zt {a b c d:Int} (h:uO a b) (k:uO c d):-256≤a*d∧a*d≤256:=by
 unfold uO at *
 have h1:(a*d).natAbs≤16*16:=by rw [nC];exact iX sV sV
 omega
def Rk (p q:R2):Prop:=uO p.a p.b∧uO q.a q.b∧same p.a p.b q.a q.b
def Twin (l:List R2):Prop:=∃ j,j<l.length∧∃ i,i<j∧Rk (l[i]?.getD default) (l[j]?.getD default)
theorem TR (G:Imm) (a:Option Addr) (c:Nat) (l:List R2) (ha:Arr G a l) (h1:l.length≤1048576) (hc:l.length≤c):Does Tryz.prog 167 [.slice a l.length c] G [] (fun v G' Ho=>∃ (i j:Int) (b:Bool),v=.tuple #[.int .i64 i,.int .i64 j,.bool b]∧(b=true↔Twin l)∧G'=G∧Ho=[]):=by
 refine D0 Tryz.func167 Tryz.ntmps167 fun w=>?_
 refine cF 16 [] ?_
 refine gC (ι:=Nat) (fun j=>([(13,.int .i64 (j:Int)),(12,.int .i64 (l.length:Int)),(11,.slice a (List.length l) c),(0,.slice a (List.length l) c)],[])) (fun j=>j≤l.length∧(∀ j',j'<j→∀ i,i<j'→¬Rk (l[i]?.getD default) (l[j']?.getD default))) (fun j=>l.length - j) (0) (⟨aU _,fun j' h=>absurd h sV⟩) fun j=>fun hk=>?_
 obtain ⟨hj,hno⟩:=hk
 refine cF 6 [] ?_
 refine dN (fun hc1=>?_) fun hc1=>?_
 refine aK 7 [] ?_
 refine dP (α:=R2) T.sl22 ?_
 refine mM T.agg51 ?_
 refine aQ 0 rfl T.zero51 fun b1=>?_
 refine aJ 8 [0] ?_
 refine aN (Qp T.sl22 rfl rfl sV) ?_
 refine bJ 5 [] ?_
 rotate_left
 refine bE 13 [] ?_
 refine Ar.e3 ?_
 rotate_left
 · have haj:Arr G (subA a c 0 2) (l.take j):=Lc ha j
   have ej:(l.take j).length=j:=by rw [bC];omega
   refine jE 20 rfl (show _=Value.slice (subA a c 0 2) (l.take j).length c by rw [ej];rfl) ?_
   refine gC (ι:=Nat) (fun i=>([(22,.int .i64 (i:Int)),(0,.slice a l.length c),(11,.slice a l.length c),(12,.int .i64 (l.length:Int)),(20,.slice (Go.Sl.subA a c 0 2) (List.length (List.take j l)) c),(21,.int .i64 (↑(Int.toNat (↑j:Int)):Int)),(5,.int .i64 (↑j:Int)),(6,.pointer (some ⟨b1,0,none⟩)),(13,.int .i64 (↑j:Int))],[(0,some b1,.cells (List.toArray (Cells.enc (Option.getD l[Int.toNat (↑j:Int)]? default))) 51)])) (fun i=>i≤j∧(∀ i',i'<i→¬Rk (l[i']?.getD default) (l[j]?.getD default))) (fun i=>j - i) (0) (⟨aU _,fun i' h=>absurd h sV⟩) fun i=>fun hk=>?_
   obtain ⟨hi,hni⟩:=hk
   have eti:i<j→(l.take j)[(i:Int).toNat]?.getD default=l[i]?.getD default:=fun h=>by rw [iY,aR (by omega)];rfl
   have etj:l[(j:Int).toNat]?.getD default=l[j]?.getD default:=rfl
   refine cF 6 [] ?_
   refine dN (fun hc2=>?_) fun hc2=>?_
   refine aK 7 [] ?_
   refine dP (α:=R2) T.sl22 ?_
   refine mM T.agg51 ?_
   refine aQ 1 rfl T.zero51 fun b2=>?_
   refine aJ 8 [1,1,0] ?_
   refine bW rfl (by apply ZL <;> first | assumption | omega | rfl) ?_
   refine bJ 12 [] ?_
   refine dN (fun hc3=>?_) fun hc3=>?_
   refine bE 19 [] ?_
   refine Ar.e3 ?_
   rotate_left
   refine bE 7 [] ?_
   rotate_left
   refine bE 10 [] ?_
   rotate_left
   · rw [eti sV] at hc3
     exact ⟨_,_,true,rfl,⟨fun _=>⟨j,by omega,i,by omega,hc3⟩,fun _=>rfl⟩,rfl,rfl⟩
   · refine cZ 22 rfl (show _=Value.int .i64 ((i+1:Nat):Int) from rfl) ?_
     refine cS (i+1) ?_ ?_
     · refine ⟨by omega,fun i' h2=>?_⟩
       rcases aM i' i with h | h
       · exact hni i' h
       have e:i'=i:=sV
       subst e;intro hq;rw [eti sV] at hc3;exact hc3 hq
     omega
   refine cZ 13 rfl (show _=Value.int .i64 ((j+1:Nat):Int) from rfl) ?_
   refine cS (j+1) ?_ ?_
   · refine ⟨by omega,fun j' h1 i h2=>?_⟩
     rcases aM j' j with h | h
     · exact hno j' h i h2
     have e:j'=j:=sV
     subst e;exact hni i sV
   omega
 refine ⟨0,0,false,rfl,⟨fun h=>absurd h tF,fun ⟨j',h1,i',h2,h3⟩=>absurd h3 (hno j' sV i' h2)⟩,rfl,rfl⟩
def IE (p:R2):Prop:=uO p.a p.b∧¬(p.a=0∧p.b=0)
def wG (l:List R2):Prop:=1≤l.length∧l.length≤15∧(∀ i,i<l.length→IE (l[i]?.getD default))∧¬Twin l
theorem ZM (G:Imm) (a:Option Addr) (c:Nat) (l:List R2) (ha:Arr G a l) (h1:l.length≤1048576) (hc:l.length≤c):Does Tryz.prog 226 [.slice a l.length c] G [] (fun v G' Ho=>∃ b:Bool,v=.bool b∧(b=true↔wG l)∧G'=G∧Ho=[]):=by
 refine D0 Tryz.func226 Tryz.ntmps226 fun w=>?_
 refine aK 12 [] ?_
 apply bZ 4 11 15 rfl
 intro hg1
 refine aA 7 [] ?_
 exact cU 4 0
 intro hg1
 refine aA 4 [] ?_
 exact cU 4 0
 refine bJ 2 [] ?_
 refine dN (fun hc1=>?_) fun hc1=>?_
 refine bE 7 [] ?_
 refine bO ?_
 rotate_left
 refine cF 11 [] ?_
 rotate_left
 · exact ⟨false,rfl,⟨fun h=>absurd h tF,fun h=>absurd h.1 (by have:=h.2.1;omega)⟩,rfl,rfl⟩
 refine gC (ι:=Nat) (fun j=>([(18,.int .i64 (j:Int)),(0,.slice a l.length c),(17,.int .i64 (l.length:Int)),(16,.slice a (List.length l) c)],[])) (fun j=>j≤l.length∧(∀ i,i<j→IE (l[i]?.getD default))) (fun j=>l.length - j) (0) (⟨aU _,fun j' h=>absurd h sV⟩) fun j=>fun hk=>?_
 obtain ⟨hj,hno⟩:=hk
 refine cF 6 [] ?_
 refine dN (fun hc2=>?_) fun hc2=>?_
 refine aK 6 [] ?_
 refine dP (α:=R2) T.sl22 ?_
 refine mM T.agg51 ?_
 refine aQ 0 rfl T.zero51 fun b1=>?_
 refine aJ 6 [0,0] ?_
 refine bW rfl Og ?_
 refine aN (dK rfl) ?_
 refine aA 1 [] ?_
 apply bZ 3 25 28 rfl
 intro hg1
 refine aA 3 [0] ?_
 refine bW rfl (by apply TP <;> first | assumption | omega | rfl) ?_
 refine aA 1 [] ?_
 exact cU 3 0
 intro hg1
 refine aA 3 [] ?_
 exact cU 3 0
 refine bJ 2 [] ?_
 refine dN (fun hc3=>?_) fun hc3=>?_
 refine bE 11 [] ?_
 refine bO ?_
 rotate_left
 refine bE 7 [] ?_
 rotate_left
 refine aK 8 [] ?_
 refine bV 0 rfl (TR _ _ _ _ sW sV uU) fun v1 G1 Ho1 hle1 hp=>?_
 obtain ⟨ti1,tj1,tb1,rfl,htb1,rfl,rfl⟩:=hp
 refine aW 17 [] ?_
 refine bO ?_
 rotate_left
 · exact ⟨false,rfl,⟨fun h=>absurd h tF,fun h=>absurd (h.2.2.1 j sV) (by show ¬IE (l[(j:Int).toNat]?.getD default);unfold IE;unfold uO at *;omega)⟩,rfl,rfl⟩
 · refine cZ 18 rfl (show _=Value.int .i64 ((j+1:Nat):Int) from rfl) ?_
   refine cS (j+1) ?_ ?_
   · refine ⟨by omega,fun i' h2=>?_⟩
     rcases aM i' j with h | h
     · exact hno i' h
     have e:i'=j:=sV
     subst e
     show IE (l[(i':Int).toNat]?.getD default)
     unfold IE;unfold uO at *;omega
   omega
 refine ⟨!tb1,rfl,?_,rfl,rfl⟩
 have e:(∀ i,i<l.length→IE (l[i]?.getD default)):=fun i hi=>hno i sV
 rw [eD,Bool.eq_false_iff,ne_eq,htb1]
 exact ⟨fun h=>⟨by omega,by omega,e,h⟩,fun h=>h.2.2.2⟩
theorem ZN (G:Imm) (a b c d:Int) (hp:uO a b) (hq:uO c d):Does Tryz.prog 176 [.agg #[.int .i64 a,.int .i64 b],.agg #[.int .i64 c,.int .i64 d]] G [] (fun v G' Ho=>v=.int .i64 (a*d - c*b)∧G'=G∧Ho=[]):=by
 refine D0 Tryz.func176 Tryz.ntmps176 fun w=>?_
 have m1:=Zt hp hq
 have m2:=Zt hq hp
 refine aK 2 [] ?_
 refine cV 0 fun b1=>?_
 refine cV 1 fun b2=>?_
 refine aJ 9 [0,1] ?_
 refine aN (mE rfl rfl sV) ?_
 refine aA 4 [1,0] ?_
 refine aN (mE rfl rfl sV) ?_
 refine aW 5 [] ?_
 refine bO ?_
 exact ⟨rfl,rfl,rfl⟩
instance (a b c d:Int):Decidable (if (a=0∧b=0)∨(c=0∧d=0) then (a=0∧b=0)∧(c=0∧d=0) else a*d - c*b=0):=by split <;> infer_instance
def Jd (a b c d:Int):Prop:=if (a=0∧b=0)∨(c=0∧d=0) then (a=0∧b=0)∧(c=0∧d=0) else a*d - c*b=0
instance (a b c d:Int):Decidable (Jd a b c d):=inferInstanceAs (Decidable (if (a=0∧b=0)∨(c=0∧d=0) then (a=0∧b=0)∧(c=0∧d=0) else a*d - c*b=0))
theorem ZO (G:Imm) (a b c d:Int) (hp:uO a b) (hq:uO c d):Does Tryz.prog 131 [.agg #[.int .i64 a,.int .i64 b],.agg #[.int .i64 c,.int .i64 d]] G [] (fun v G' Ho=>v=.bool (decide (Jd a b c d))∧G'=G∧Ho=[]):=by
 refine D0 Tryz.func131 Tryz.ntmps131 fun w=>?_
 refine aK 2 [] ?_
 refine cV 0 fun b1=>?_
 refine cV 1 fun b2=>?_
 refine aJ 7 [0] ?_
 refine bW rfl So ?_
 refine aA 1 [] ?_
 apply bZ 3 7 10 rfl
 intro hg1
 refine aA 3 [1] ?_
 refine bW rfl So ?_
 refine aA 1 [] ?_
 exact cU 3 0
 intro hg1
 refine aA 3 [] ?_
 exact cU 3 0
 refine bJ 2 [] ?_
 refine dN (fun hc1=>?_) fun hc1=>?_
 refine aK 3 [0] ?_
 refine bW rfl So ?_
 refine aA 1 [] ?_
 apply cW 3 13 16 rfl
 intro hg1
 refine aA 3 [1] ?_
 refine bW rfl So ?_
 refine aA 1 [] ?_
 exact cU 3 0
 intro hg1
 refine aA 3 [] ?_
 exact cU 3 0
 refine aW 5 [] ?_
 refine bO ?_
 rotate_left
 refine aK 6 [0,1] ?_
 refine bW rfl (ZN _ _ _ _ _ sW sW) ?_
 refine aW 5 [] ?_
 refine bO ?_
 rotate_left
 · exact ⟨by congr 1;exact decide_eq_decide.mpr (by unfold Jd;rw [aR hc1]),rfl,rfl⟩
 exact ⟨by congr 1;exact decide_eq_decide.mpr (by unfold Jd;rw [aL hc1]),rfl,rfl⟩
def IF (p q:R2):Prop:=uO p.a p.b∧uO q.a q.b∧Jd p.a p.b q.a q.b
def PE (l:List R2):Prop:=∃ j,j<l.length∧∃ i,i<j∧IF (l[i]?.getD default) (l[j]?.getD default)
theorem Fc {y g:Int} (h:y*g<0) (hg:g<0):0<y:=by
 rcases nD y 0 with h1 | h1 | h1
 · have:=Int.mul_pos_of_neg_of_neg h1 hg;omega
 · subst h1;rw [gK] at h;omega
 exact h1
theorem Dd {y g:Int} (h:0<y*g) (hg:0<g):0<y:=by
 rcases nD y 0 with h1 | h1 | h1
 · have:=Int.mul_neg_of_neg_of_pos h1 hg;omega
 · subst h1;rw [gK] at h;omega
 exact h1
theorem Hl {a b:Int} (h:¬(a=0∧b=0)):∃ x y g:Int,Zs a b=(x,y)∧g≠0∧x*g=a∧y*g=b∧Int.gcd x y=1∧(0<y∨(y=0∧0<x)):=by
 have hg0:0<Int.gcd a b:=by
  rcases eU (Int.gcd a b) with h0 | h0
  · exact absurd (Int.gcd_eq_zero_iff.mp h0) h
  exact h0
 have hgn:uW a b≠0:=by unfold uW;split <;> omega
 have habs:(uW a b).natAbs=Int.gcd a b:=by unfold uW;split <;> omega
 have d1:uW a b ∣ a:=Int.natAbs_dvd.mp (by rw [habs];exact Int.gcd_dvd_left a b)
 have d2:uW a b ∣ b:=Int.natAbs_dvd.mp (by rw [habs];exact Int.gcd_dvd_right a b)
 have e1:=Int.tdiv_mul_cancel d1
 have e2:=Int.tdiv_mul_cancel d2
 refine ⟨a.tdiv (uW a b),b.tdiv (uW a b),uW a b,by unfold Zs;rw [aL h],hgn,e1,e2,?_,?_⟩
 · show Nat.gcd (a.tdiv (uW a b)).natAbs (b.tdiv (uW a b)).natAbs=1
   rw [show (a.tdiv (uW a b)).natAbs=a.natAbs / (uW a b).natAbs from Int.natAbs_tdiv _ _,show (b.tdiv (uW a b)).natAbs=b.natAbs / (uW a b).natAbs from Int.natAbs_tdiv _ _,habs]
   exact Nat.coprime_div_gcd_div_gcd hg0
 generalize hx:a.tdiv (uW a b)=x at *
 generalize hy:b.tdiv (uW a b)=y at *
 rcases nD b 0 with hb | hb | hb
 · left
   refine Fc (g:=uW a b) sV ?_
   unfold uW;rw [aR (.inl hb)];omega
 · right
   have hy0:y=0:=by
    rcases Int.mul_eq_zero.mp (show y*uW a b=0 by omega) with h1 | h1
    · exact h1
    exact absurd h1 hgn
   refine ⟨hy0,?_⟩
   rcases (show a<0∨0≤a by omega) with ha | ha
   · refine Fc (g:=uW a b) sV ?_
     unfold uW;rw [aR (.inr ⟨hb,ha⟩)];omega
   refine Dd (g:=uW a b) sV ?_
   unfold uW;rw [aL (by omega)];omega
 left
 refine Dd (g:=uW a b) sV ?_
 unfold uW;rw [aL (by omega)];omega
theorem DF {x y u v:Int} (h1:Int.gcd x y=1) (h2:Int.gcd u v=1) (s1:0<y∨(y=0∧0<x)) (s2:0<v∨(v=0∧0<u)) (h:x*v=u*y):x=u∧y=v:=by
 have e:x.natAbs*v.natAbs=u.natAbs*y.natAbs:=by rw [←nC,←nC,h]
 have c1:Nat.Coprime x.natAbs y.natAbs:=h1
 have c2:Nat.Coprime u.natAbs v.natAbs:=h2
 have p1:x.natAbs ∣ u.natAbs:=c1.dvd_of_dvd_mul_right (e▸Nat.dvd_mul_right _ _)
 have p2:u.natAbs ∣ x.natAbs:=c2.dvd_of_dvd_mul_right (e▸Nat.dvd_mul_right _ _)
 have p3:y.natAbs ∣ v.natAbs:=c1.symm.dvd_of_dvd_mul_left (e▸Nat.dvd_mul_left _ _)
 have p4:v.natAbs ∣ y.natAbs:=c2.symm.dvd_of_dvd_mul_left (e▸Nat.dvd_mul_left _ _)
 have q1:=Nat.dvd_antisymm p1 p2
 have q2:=Nat.dvd_antisymm p3 p4
 have hyv:y=v:=sV
 refine ⟨?_,hyv⟩
 subst hyv
 rcases s1 with s | s
 · exact Int.eq_of_mul_eq_mul_right sV h
 omega
theorem IG (a b c d:Int):same a b c d↔Jd a b c d:=by
 unfold same Jd
 by_cases hp:a=0∧b=0
 · by_cases hq:c=0∧d=0
   · rw [aR (.inl hp)]
     obtain ⟨rfl,rfl⟩:=hp
     obtain ⟨rfl,rfl⟩:=hq
     exact ⟨fun _=>⟨⟨rfl,rfl⟩,rfl,rfl⟩,fun _=>rfl⟩
   rw [aR (.inl hp)]
   refine ⟨fun h=>?_,fun h=>absurd h.2 hq⟩
   obtain ⟨u,v,k,e2,hk,_,_,_,s2⟩:=Hl hq
   have e1:Zs a b=(0,0):=by unfold Zs;rw [aR hp,hp.1,hp.2]
   rw [e1,e2] at h
   injection h with h3 h4
   omega
 obtain ⟨x,y,g,e1,hg,f1,f2,c1,s1⟩:=Hl hp
 by_cases hq:c=0∧d=0
 · rw [aR (.inr hq)]
   refine ⟨fun h=>?_,fun h=>absurd h.1 hp⟩
   have e2:Zs c d=(0,0):=by unfold Zs;rw [aR hq,hq.1,hq.2]
   rw [e1,e2] at h
   injection h with h3 h4
   omega
 obtain ⟨u,v,k,e2,hk,f3,f4,c2,s2⟩:=Hl hq
 rw [aL (fun h=>h.elim hp hq),e1,e2]
 have key:a*d - c*b=(x*v - u*y)*(g*k):=by
  rw [←f1,←f2,←f3,←f4,pK]
  congr 1 <;> ac_rfl
 constructor
 · intro h
   injection h with h3 h4
   rw [key,h3,h4,Int.sub_self,gK]
 intro h
 rw [key] at h
 have hgk:g*k≠0:=fun h0=>(Int.mul_eq_zero.mp h0).elim hg hk
 have h5:x*v - u*y=0:=(Int.mul_eq_zero.mp h).resolve_right hgk
 obtain ⟨r1,r2⟩:=DF c1 c2 s1 s2 sV
 rw [r1,r2]
theorem Up (l:List R2):Twin l↔PE l:=by
 unfold Twin PE Rk IF
 simp only [IG]
section
attribute [local irreducible] sX pb tQ tN p2
theorem TS (G:Imm) (x:IV) (z n:Int) (hx:Big G x z) (h1:x.n≤536870912) (hn:-9223372036854775808≤n∧n≤9223372036854775807) :
 Does Tryz.prog 253 [.agg (Cells.enc x).toArray,.int .i64 n] G [] (fun v G' Ho=>∃ r:IV,v=.agg (Cells.enc r).toArray∧Big G' r (z*n)∧Ho=[]):=by
 have hn3:(n.natAbs:Int)<pb 3:=by
  have e:pb 3=79228162514264337593543950336:=by unfold pb;decide
  omega
 obtain ⟨n1,a,k1,ca⟩:=x
 refine D0 Tryz.func253 Tryz.ntmps253 fun w=>?_
 refine aK 2 [] ?_
 refine cV 0 fun b1=>?_
 refine aQ 1 rfl T.zero89 fun b2=>?_
 refine bJ 3 [] ?_
 refine eB [0,1] [(1,4)] T.mixed [[0,0],[1]] ?_
 refine fE 2 ?_
 refine bV 2 rfl (LK _ _ sV) fun v1 G1 Ho1 hle1 hp=>?_
 obtain ⟨ro,rfl,hro,rfl⟩:=hp
 replace hx:=hx.up hle1
 refine bT 3 ?_
 refine bV 2 rfl (YG _ _ _ _ _ hx hro h1 (aO (iR hro hn3) tF)) fun v2 G2 Ho2 hle2 hp=>?_
 obtain ⟨rm,rfl,hrm,rfl⟩:=hp
 replace hro:=hro.up hle2
 replace hx:=hx.up hle2
 refine bT 4 ?_
 refine aA 1 [1] ?_
 refine fV ?_
 refine gZ 2 [] ?_
 refine dL (.inr rfl) (Ho:=Hp.only _ []) rfl (.agg 1 rfl rfl T.agg89) (bK _ _) ?_
 exact ⟨rm,rfl,hrm,rfl⟩
end
section
attribute [local irreducible] sX pb tQ tN p2
def vI (a b:Int) (n:Nat):List Int:=(List.range n).map fun j=>a ^ j*b ^ (n - 1 - j)
theorem TT (G:Imm) (a b:Int) (n:Nat) (hp:uO a b) (hn:n≤15) :
 Does Tryz.prog 210 [.agg #[.int .i64 a,.int .i64 b],.int .i64 n] G [] (fun v G' Ho=>∃ (s:Option Addr) (r:List IV) (c':Nat),v=.tuple #[.slice s r.length c',.int .i64 0]∧Arr G' s r∧Bigs G' r (vI a b n)∧r.length≤c'∧Ho=[]):=by
 refine D0 Tryz.func210 Tryz.ntmps210 fun w=>?_
 have hpn:¬((¬uO a b∨(n:Int)<0)∨16<(n:Int)):=Oj
 refine aK 2 [] ?_
 refine cV 0 fun b1=>?_
 refine aJ 8 [0] ?_
 refine bW rfl Og ?_
 refine aN (dK rfl) ?_
 refine aA 1 [] ?_
 apply bZ 3 14 17 rfl
 intro hg1
 refine aA 5 [] ?_
 exact cU 3 0
 intro hg1
 refine aA 3 [] ?_
 exact cU 3 0
 refine aA 1 [] ?_
 apply bZ 3 18 21 rfl
 intro hg1
 refine aA 5 [] ?_
 exact cU 3 0
 intro hg1
 refine aA 3 [] ?_
 exact cU 3 0
 refine aJ 8 [0] ?_
 refine iC (α:=IV) 1 rfl T.sl39 T.el89 rfl rfl sV sV fun b2=>?_
 refine aJ 5 [] ?_
 refine bV 2 rfl (LK _ 1 tF) fun v1 G1 Ho1 hle1 hp=>?_
 obtain ⟨ro1,rfl,hro1,rfl⟩:=hp
 refine bV 2 rfl (LK _ 1 tF) fun v2 G2 Ho2 hle2 hp=>?_
 obtain ⟨ro2,rfl,hro2,rfl⟩:=hp
 replace hro1:=hro1.up hle2
 refine aQ 2 rfl T.zero89 fun b3=>?_
 refine aQ 3 rfl T.zero89 fun b4=>?_
 refine bJ 13 [2,3] ?_
 refine jE 6 rfl (show _=Value.slice (some ⟨b2,0,none⟩) (List.replicate n (default:IV)).length n by simp) ?_
 have e2:(List.replicate n (default:IV)).length=n:=aE ..
 refine jQ (ι:=Nat×Imm×List IV×IV×(Option Addr×Nat×List Value)) (fun (k,Gx,r,x,(o,d,j))=>([(28,.int .i64 (k:Int)),(6,.slice o r.length d),(27,.int .i64 (↑(List.length (List.replicate (Int.toNat (↑n:Int)) default)):Int)),(8,.pointer (some (Addr.mk b4 0 none))),(7,.pointer (some (Addr.mk b3 0 none))),(5,.int .i64 0),(4,.slice none 0 0),(2,.pointer (some ⟨b1,0,none⟩)),(1,.int .i64 (↑n:Int))],[(1,o.map (·.block),tK 89 r j),(2,some b3,.cells (Cells.enc x).toArray 89),(3,some b4,.cells (List.toArray (Cells.enc ro2)) 89),(0,some b1,.cells #[.int .i64 a,.int .i64 b] 51)])) (fun (k,Gx,r,x,(o,d,j))=>Gx) (fun (k,Gx,r,x,(o,d,j))=>k≤n∧G2.le Gx∧r.length=n∧Bigs Gx r ((List.range n).map fun i=>if i<k then a ^ i else 0)∧Big Gx x (a ^ k)∧OwnA o d r j) (fun (k,Gx,r,x,(o,d,j))=>n - k) ((0,G2,List.replicate n default,ro1,(some ⟨b2,0,none⟩,n,[]))) (⟨aU _,cA _,aE ..,by have e:(List.range n).map (fun i=>if i<0 then a ^ i else 0)=List.replicate n (0:Int):=by { apply jS <;> simp };rw [e];exact rR _ _,by rw [Int.pow_zero];exact hro1,.inr ⟨b2,rfl,by rw [aE];rfl,by omega,by simp only [maxLen];omega⟩⟩) rfl ⟨rfl,rfl,rfl,rfl,rfl,rfl,rfl,rfl,rfl,trivial⟩ ⟨rfl,rfl,rfl,rfl,trivial⟩ fun ⟨k,Gx,r,x,(o,d,j)⟩=>fun hk=>?_
 obtain ⟨hk1,hk2,hk3,hk4,hk5,hob⟩:=hk
 have e1:(List.replicate ((n:Int)).toNat (default:IV)).length=n:=Az
 have e0:(List.replicate n (default:IV)).length=n:=aE ..
 have hx3:k≤15→((a ^ k).natAbs:Int)<pb 3:=fun h=>by
  have e:pb 3=79228162514264337593543950336:=by unfold pb;decide
  have e2:(a ^ k).natAbs≤16 ^ 15:=by
   rw [oY]
   exact aO (iN (show a.natAbs≤16 by unfold uO at hp;omega) k) (eT sV h)
  have e3:(16:Nat) ^ 15=1152921504606846976:=tF
  omega
 have hxn:x.n≤536870912:=aO (iR hk5 (hx3 sV)) tF
 refine cF 6 [] ?_
 refine dN (fun hc1=>?_) fun hc1=>?_
 refine aK 15 [2] ?_
 refine fW (α:=IV) T.sl39 ?_
 rotate_left
 refine cF 14 [] ?_
 rotate_left
 · refine eX (z:=x) 1 T.size89 rfl rfl rfl sW sV rfl fun h9=>?_
   refine aJ 6 [2,0] ?_
   refine bV 4 rfl (TS _ _ _ a hk5 hxn Cv) fun v3 G3 Ho3 hle3 hp=>?_
   obtain ⟨rt,rfl,hrt,rfl⟩:=hp
   replace hk4:=hk4.up hle3
   replace hk5:=hk5.up hle3
   refine aW 8 [2] ?_
   have hle3':Gx.le G3:=hle3
   refine cZ 28 rfl (show _=Value.int .i64 ((k+1:Nat):Int) from rfl) ?_
   refine cZ 6 rfl (show _=Value.slice o (r.set (k:Int).toNat x).length d by rw [aH]) ?_
   refine cS ((k+1,G3,r.set (k:Int).toNat x,rt,(o,d,j))) ?_ ?_
   · refine ⟨by omega,aZ hk2 hle3',by rw [aH];exact hk3,?_,by rw [Int.pow_succ];exact hrt,h9⟩
     have h8:=hk4.set k hk5
     rw [aF]
     have e:((List.range n).map fun i=>if i<k then a ^ i else 0).set k (a ^ k)=(List.range n).map fun i=>if i<k+1 then a ^ i else 0:=by
      apply jS
      · simp
      intro i h1 h2
      rw [List.getElem_set]
      simp only [iW,mG]
      by_cases h:k=i
      · subst h;simp
      rw [aL h]
      by_cases h7:i<k
      · rw [aR h7,aR (by omega)]
      rw [aL h7,aL (by omega)]
     rw [e] at h8;exact h8
   show n - (k+1)<n - k
   omega
 have hkn:k=n:=sV
 subst hkn
 have hl1:(List.range k).map (fun i=>if i<k then a ^ i else (0:Int))=(List.range k).map fun m=>if ((m:Nat):Int)≤(k:Int) - 1 then a ^ m else a ^ m*b ^ (k - 1 - m):=by
  apply List.map_congr_left
  intro m hm
  rw [qQ] at hm
  rw [aR hm,aR (by omega)]
 rw [hl1] at hk4
 refine rX (ι:=Int×Imm×List IV×IV) (fun (i,Gy,q,y)=>([(10,.int .i64 i),(6,.slice o q.length d),(8,.pointer (some (Addr.mk b4 0 none))),(5,.int .i64 0),(4,.slice none 0 0),(2,.pointer (some ⟨b1,0,none⟩))],[(1,o.map (·.block),tK 89 q j),(3,some b4,.cells (Cells.enc y).toArray 89),(2,some b3,.cells (List.toArray (Cells.enc x)) 89),(0,some b1,.cells #[.int .i64 a,.int .i64 b] 51)])) (fun (i,Gy,q,y)=>Gy) (fun (i,Gy,q,y)=>-1≤i∧i<k∧Gx.le Gy∧q.length=k∧Bigs Gy q ((List.range k).map fun m=>if ((m:Nat):Int)≤i then a ^ m else a ^ m*b ^ (k - 1 - m))∧Big Gy y (b ^ ((k:Int) - 1 - i).toNat)∧OwnA o d q j) (fun (i,Gy,q,y)=>(i+1).toNat) (((k:Int) - 1,Gx,r,ro2)) (⟨by omega,by omega,cA _,hk3,hk4,by rw [show ((k:Int) - 1 - ((k:Int) - 1)).toNat=0 by omega,Int.pow_zero];exact hro2.up hk2,hob⟩) fun ⟨i,Gy,q,y⟩=>fun hk=>?_
 obtain ⟨hi1,hi2,hi3,hi4,hi5,hi6,hi7⟩:=hk
 rcases Int.lt_or_le i 0 with hi0 | hi0
 · have hi9:i=-1:=sV
   subst hi9
   have hl2:(List.range k).map (fun m=>if ((m:Nat):Int)≤-1 then a ^ m else a ^ m*b ^ (k - 1 - m))=vI a b k:=by
    unfold vI
    apply List.map_congr_left
    intro m hm
    rw [aL (by omega)]
   rw [hl2] at hi5
   refine bE 21 [0] ?_
   refine eE 1 rfl hi7 fun G8 hle8 hA8=>?_
   refine eG ?_
   exact ⟨_,_,_,rfl,hA8,hi5.up hle8,hi7.le,rfl⟩
 obtain ⟨m,rfl⟩:∃ m:Nat,i=(m:Int):=⟨i.toNat,by omega⟩
 have hmk:m<k:=sV
 have hbe:Big Gy (q[(m:Int).toNat]?.getD default) (a ^ m):=by
  have h9:=hi5.2 m sV
  rw [cK,fK hmk] at h9
  rw [aF]
  simpa using h9
 have hsm:∀ (c:Int) (e:Nat),-16≤c∧c≤16→e≤15→((c ^ e).natAbs:Int)<pb 3:=fun c e hc he=>by
  have e0:pb 3=79228162514264337593543950336:=by unfold pb;decide
  have e2:(c ^ e).natAbs≤16 ^ 15:=by
   rw [oY]
   exact aO (iN (show c.natAbs≤16 by omega) e) (eT sV he)
  have e3:(16:Nat) ^ 15=1152921504606846976:=tF
  omega
 have hlq:=iR hbe (hsm a m Cv sV)
 have hly:=iR hi6 (hsm b _ Cv sV)
 have hyn:y.n≤536870912:=aO hly tF
 refine cF 13 [1] ?_
 refine eB [0,2,3,1] [(1,9),(3,9),(2,9),(0,9)] T.mixed [[0],[1],[2],[3]] ?_
 refine kS (α:=IV) 4 T.sl39 ?_
 refine gD 5 [1] rfl (BR 1 T.agg89 rfl rfl sW sV) ?_
 refine eJ [[6,3]] ?_
 refine fE 7 ?_
 refine bV 4 rfl (YG _ _ _ _ _ hbe hi6 (aO hlq tF) (aO hly tF)) fun v3 G3 Ho3 hle3 hp=>?_
 obtain ⟨rm3,rfl,hrm3,rfl⟩:=hp
 replace hi5:=hi5.up hle3
 replace hi6:=hi6.up hle3
 replace hbe:=hbe.up hle3
 refine dW ?_
 refine kS (α:=IV) 8 T.sl39 ?_
 refine fE 9 ?_
 refine eX (z:=rm3) 1 T.size89 rfl rfl rfl sW sV rfl fun h9=>?_
 refine fV ?_
 refine pY 5 [3,0] ?_
 refine bV 4 rfl (TS _ _ _ b sW hyn Cv) fun v4 G4 Ho4 hle4 hp=>?_
 obtain ⟨rt4,rfl,hrt4,rfl⟩:=hp
 replace hrm3:=hrm3.up hle4
 replace hi5:=hi5.up hle4
 replace hi6:=hi6.up hle4
 replace hbe:=hbe.up hle4
 refine aW 9 [3] ?_
 refine cZ 6 rfl (show _=Value.slice o (q.set (m:Int).toNat rm3).length d by rw [aH]) ?_
 refine cS (((m:Int) - 1,_,q.set (m:Int).toNat rm3,rt4)) ?_ ?_
 · refine ⟨by omega,by omega,aZ hi3 (aZ sW sW),by rw [aH];exact hi4,?_,?_,h9⟩
   · have h8:=hi5.set m hrm3
     rw [aF]
     have e:((List.range k).map fun q=>if ((q:Nat):Int)≤(m:Int) then a ^ q else a ^ q*b ^ (k - 1 - q)).set m (a ^ m*b ^ ((k:Int) - 1 - (m:Int)).toNat)=(List.range k).map fun q=>if ((q:Nat):Int)≤(m:Int) - 1 then a ^ q else a ^ q*b ^ (k - 1 - q):=by
      apply jS
      · simp
      intro i h1 h2
      rw [List.getElem_set]
      simp only [iW,mG]
      by_cases h:m=i
      · subst h
        rw [aR rfl,aL (by omega)]
        congr 2
        omega
      rw [aL h]
      by_cases h7:(i:Int)≤(m:Int)
      · rw [aR h7,aR (by omega)]
      rw [aL h7,aL (by omega)]
     rw [e] at h8;exact h8
   have e:((k:Int) - 1 - ((m:Int) - 1)).toNat=((k:Int) - 1 - (m:Int)).toNat+1:=sV
   rw [e,Int.pow_succ];exact hrt4
 show ((m:Int) - 1+1).toNat<((m:Int)+1).toNat
 omega
end
section
attribute [local irreducible] sX pb tQ tN p2 wG vI
def BRow (G:Imm) (s:SV) (zs:List Int):Prop:=∃ l:List IV,l.length=s.n∧s.n≤s.c∧Arr G s.a l∧Bigs G l zs
theorem BRow.up {G G':Imm} {s:SV} {zs:List Int} (h:BRow G s zs) (hl:G.le G'):BRow G' s zs:=by
 obtain ⟨l,h1,h2,h3,h4⟩:=h
 exact ⟨l,h1,h2,h3.up hl,h4.up hl⟩
def BGrid (G:Imm) (l:List SV) (rs:List (List Int)):Prop:=l.length=rs.length∧∀ i:Nat,i<l.length→BRow G (l[i]?.getD default) (rs[i]?.getD [])
theorem BGrid.up {G G':Imm} {l:List SV} {rs:List (List Int)} (h:BGrid G l rs) (hl:G.le G'):BGrid G' l rs:=⟨h.1,fun i hi=>(h.2 i hi).up hl⟩
theorem BGrid.nil (G:Imm):BGrid G [] []:=⟨rfl,fun i hi=>by simp at hi⟩
theorem BGrid.snoc {G:Imm} {l:List SV} {rs:List (List Int)} (h:BGrid G l rs) {s:SV} {zs:List Int} (hs:BRow G s zs):BGrid G (l++[s]) (rs++[zs]):=by
 refine ⟨by rw [aI,aI,h.1];rfl,fun i hi=>?_⟩
 rw [aI,kL] at hi
 rcases aM i l.length with h1 | h1
 · rw [bH h1,bH (by rw [←h.1];exact h1)];exact h.2 i h1
 have:i=l.length:=sV
 subst this
 rw [cM (aG _),cM (by rw [h.1];exact aG _),jX,h.1,jX]
 exact hs
theorem TU (G:Imm) (a:Option Addr) (c:Nat) (l:List R2) (ha:Arr G a l) (h1:l.length≤1048576) (hc:l.length≤c) (hR:wG l):Does Tryz.prog 226 [.slice a l.length c] G [] (fun v G' Ho=>v=.bool true∧G'=G∧Ho=[]):=
 (ZM G a c l ha h1 hc).mono fun v G' Ho _ ⟨b,e1,e2,e3,e4⟩=>⟨by rw [e1,e2.2 hR],e3,e4⟩
def uX (l:List R2):List (List Int):=l.map fun p=>vI p.a p.b l.length
theorem IH (G:Imm) (a:Option Addr) (c:Nat) (l:List R2) (ha:Arr G a l) (h1:l.length≤1048576) (hc:l.length≤c) (hR:wG l) (hr1:l.length≤15) (hr2:∀ i,i<l.length→IE (l[i]?.getD default)) :
 Does Tryz.prog 211 [.slice a l.length c] G [] (fun v G' Ho=>∃ (s:Option Addr) (r:List SV) (c':Nat),v=.tuple #[.slice s r.length c',.int .i64 0]∧Arr G' s r∧BGrid G' r (uX l)∧r.length≤c'∧Ho=[]):=by
 refine D0 Tryz.func211 Tryz.ntmps211 fun w=>?_
 refine fO 9 (tK 39 ([]:List SV) []) ?_
 refine aK 10 [] ?_
 refine bW rfl (TU _ _ _ l sW sV hc hR) ?_
 refine bJ 20 [0] ?_
 refine jQ (ι:=Nat×Imm×List SV×(Option Addr×Nat×List Value)) (fun (i,Gx,r,(o,d,j))=>([(14,.int .i64 (i:Int)),(4,.slice o r.length d),(13,.int .i64 (l.length:Int)),(12,.slice a (List.length l) c),(3,.int .i64 0),(2,.slice none 0 0),(0,.slice a (List.length l) c)],[(9,o.map (·.block),tK 39 r j)])) (fun (i,Gx,r,(o,d,j))=>Gx) (fun (i,Gx,r,(o,d,j))=>i≤l.length∧G.le Gx∧r.length=i∧BGrid Gx r ((uX l).take i)∧OwnA o d r j) (fun (i,Gx,r,(o,d,j))=>l.length - i) ((0,G,[],(none,0,[]))) (⟨aU _,cA _,rfl,by rw [bN];exact BGrid.nil _,eW⟩) rfl ⟨rfl,rfl,rfl,rfl,rfl,rfl,rfl,trivial⟩ ⟨rfl,trivial⟩ fun ⟨i,Gx,r,(o,d,j)⟩=>fun hk=>?_
 obtain ⟨hi1,hi2,hi3,hi4,hi5⟩:=hk
 replace ha:=ha.up hi2
 rcases aM i l.length with hil | hil
 · have hnear:uO (l[(i:Int).toNat]?.getD default).a (l[(i:Int).toNat]?.getD default).b:=(hr2 i hil).1
   refine aK 13 [1] ?_
   refine dP (α:=R2) T.sl22 ?_
   refine mM T.agg51 ?_
   refine aQ 10 rfl T.zero51 fun b1=>?_
   refine aJ 8 [10,10] ?_
   refine bV 11 rfl (TT _ _ _ l.length hnear sV) fun v1 G1 Ho1 hle1 hp=>?_
   obtain ⟨ps1,pr1,pc1,rfl,hpA1,hpB1,hpL1,rfl⟩:=hp
   replace ha:=ha.up hle1
   refine aJ 10 [] ?_
   refine fF (α:=SV) 11 [⟨_,_,_⟩] rfl T.sl86 T.el39 rfl rfl rfl rfl rfl fun b2=>?_
   refine kO (α:=SV) 9 T.sl86 T.el39 (fZ 11 rfl) fun a1 c1 junk1 ho1=>?_
   refine aW 8 [] ?_
   refine cZ 14 rfl (show _=Value.int .i64 ((i+1:Nat):Int) from rfl) ?_
   refine cS ((i+1,_,r++[⟨ps1,pr1.length,pc1⟩],(a1,c1,junk1))) ?_ ?_
   · refine ⟨by omega,aZ hi2 sW,by rw [aI,hi3];rfl,?_,ho1⟩
     have e:(uX l).take (i+1)=(uX l).take i++[vI (l[(i:Int).toNat]?.getD default).a (l[(i:Int).toNat]?.getD default).b l.length]:=by
      rw [dE]
      congr 1
      unfold uX
      rw [cK,aF,aB hil];rfl
     rw [e]
     exact (hi4.up sW).snoc ⟨pr1,rfl,hpL1,hpA1,hpB1⟩
   show l.length - (i+1)<l.length - i
   omega
 have hie:i=l.length:=sV
 subst hie
 have e:(uX l).take l.length=uX l:=dD (by unfold uX;rw [bX];exact aG _)
 rw [e] at hi4
 refine bE 20 [0] ?_
 refine eE 9 rfl hi5 fun G8 hle8 hA8=>?_
 refine eG ?_
 exact ⟨_,_,_,rfl,hA8,hi4.up hle8,hi5.le,rfl⟩
end
section
attribute [local irreducible] sX sZ pb pw tQ tN p2 wG vI
def Au (z:Int):Prop:=z.natAbs<18446744073709551616
theorem Zu {G:Imm} {x:IV} {z:Int} (h:Num G x z) (hz:Au z):x.n≤4:=by
 obtain ⟨l,h1,_,_,h4⟩:=h
 rw [←h1]
 refine h4.len ?_
 have e:pw 4=18446744073709551616:=by unfold pw;decide
 unfold Au at hz;omega
theorem Hm {c:Int} {e:Nat} (hc:-16≤c∧c≤16) (he:e≤15):Au (c ^ e):=by
 unfold Au
 have e2:(c ^ e).natAbs≤16 ^ 15:=by
  rw [oY]
  exact aO (iN (show c.natAbs≤16 by omega) e) (eT sV he)
 have e3:(16:Nat) ^ 15=1152921504606846976:=tF
 omega
theorem TV (G:Imm) (x y:IV) (zx zy:Int) (hx:Num G x zx) (hy:Num G y zy) (bx:Au zx) (bz:Au zy) :
 Does Tryz.prog 52 [.agg #[.bool x.neg,.slice x.a x.n x.c],.agg #[.bool y.neg,.slice y.a y.n y.c]] G [] (fun v G' Ho=>∃ r:IV,v=.agg #[.bool r.neg,.slice r.a r.n r.c]∧Num G' r (zx*zy)∧Ho=[]):=by
 have f1:=Zu hx bx
 have f2:=Zu hy bz
 obtain ⟨n1,a,k1,ca⟩:=x
 obtain ⟨n2,b,k2,cb⟩:=y
 obtain ⟨la,rfl,hla,hA,hx⟩:=hx
 obtain ⟨lb,rfl,hlb,hB,hy⟩:=hy
 exact c52 G n1 n2 a b ca cb la lb zx zy hA hB hx hy (aO f1 tF) (aO f2 tF)
theorem ZP (G:Imm) (x:IV) (z:Int) (e:Nat) (hx:Num G x z) (hz:-16≤z∧z≤16) (he:e≤15) :
 Does Tryz.prog 179 [.agg #[.bool x.neg,.slice x.a x.n x.c],.int .i64 e] G [] (fun v G' Ho=>∃ r:IV,v=.agg #[.bool r.neg,.slice r.a r.n r.c]∧Num G' r (z ^ e)∧Ho=[]):=by
 refine D0 Tryz.func179 Tryz.ntmps179 fun w=>?_
 refine aK 2 [] ?_
 refine cV 0 fun b1=>?_
 refine aQ 1 rfl T.zero93 fun b2=>?_
 refine aJ 4 [] ?_
 refine bV 2 rfl (QJ _ 1 tF) fun v1 G1 Ho1 hle1 hp=>?_
 obtain ⟨ro1,rfl,hro1,rfl⟩:=hp
 replace hx:=hx.up hle1
 refine aQ 2 rfl T.zero93 fun b3=>?_
 refine bJ 10 [2] ?_
 refine rX (ι:=Nat×Imm×IV) (fun (k,Gx,r)=>([(6,.int .i64 (k:Int)),(5,.pointer (some (Addr.mk b3 0 none))),(4,.pointer (some ⟨b2,0,none⟩)),(2,.pointer (some ⟨b1,0,none⟩)),(1,.int .i64 (↑e:Int))],[(2,some b3,.cells #[.bool r.neg,.slice r.a r.n r.c] 93),(1,some b2,.cells #[.bool Bool.false,.slice none 0 0] 93),(0,some b1,.cells #[.bool (Go.Sl.IV.neg x),.slice (Go.Sl.IV.a x) (Go.Sl.IV.n x) (Go.Sl.IV.c x)] 93)])) (fun (k,Gx,r)=>Gx) (fun (k,Gx,r)=>k≤e∧G1.le Gx∧Num Gx r (z ^ k)) (fun (k,Gx,r)=>e - k) ((0,G1,ro1)) (⟨aU _,cA _,by rw [Int.pow_zero];exact hro1⟩) fun ⟨k,Gx,r⟩=>fun hk=>?_
 obtain ⟨hk1,hk2,hk3⟩:=hk
 rcases aM k e with hke | hke
 · have hx':=hx.up hk2
   have s1:Au (z ^ k):=Hm hz sV
   have s2:Au z:=by unfold Au;omega
   refine aK 16 [1,2,0] ?_
   refine bV 3 rfl (TV _ r x (z ^ k) z sW sW s1 s2) fun v2 G2 Ho2 hle2 hp=>?_
   obtain ⟨rt2,rfl,hrt2,rfl⟩:=hp
   replace hk3:=hk3.up hle2
   replace hx':=hx'.up hle2
   refine aW 9 [2] ?_
   refine cZ 6 rfl (show _=Value.int .i64 ((k+1:Nat):Int) from rfl) ?_
   refine cS ((k+1,_,rt2)) ?_ ?_
   · exact ⟨by omega,aZ hk2 sW,by rw [Int.pow_succ];exact hrt2⟩
   show e - (k+1)<e - k
   omega
 have hke:k=e:=sV
 subst hke
 refine bE 21 [0,2,1] ?_
 refine dL (.inr rfl) (Ho:=Hp.only _ []) rfl (.agg 1 rfl rfl T.agg93) (bK _ _) ?_
 exact ⟨_,rfl,hk3,rfl⟩
theorem PG (G:Imm) (x:IV) (z e:Int) (hx:Num G x z) (hz:-16≤z∧z≤16) (he:0≤e∧e≤15) :
 Does Tryz.prog 179 [.agg #[.bool x.neg,.slice x.a x.n x.c],.int .i64 e] G [] (fun v G' Ho=>∃ r:IV,v=.agg #[.bool r.neg,.slice r.a r.n r.c]∧Num G' r (z ^ e.toNat)∧Ho=[]):=by
 obtain ⟨k,rfl⟩:∃ k:Nat,e=(k:Int):=⟨e.toNat,by omega⟩
 exact ZP G x z k hx hz sV
theorem TW (G:Imm) (a b:Int) (n:Nat) (hp:uO a b) (hn:n≤15) :
 Does Tryz.prog 135 [.agg #[.int .i64 a,.int .i64 b],.int .i64 n] G [] (fun v G' Ho=>∃ (s:Option Addr) (r:List IV) (c':Nat),v=.slice s r.length c'∧Arr G' s r∧Nums G' r (vI a b n)∧r.length≤c'∧Ho=[]):=by
 refine D0 Tryz.func135 Tryz.ntmps135 fun w=>?_
 refine fO 9 (tK 93 ([]:List IV) []) ?_
 refine aK 2 [] ?_
 refine cV 10 fun b1=>?_
 refine bJ 15 [] ?_
 refine jQ (ι:=Nat×Imm×List IV×(Option Addr×Nat×List Value)) (fun (k,Gx,r,(o,d,j))=>([(6,.int .i64 (k:Int)),(5,.slice o r.length d),(4,.slice none 0 0),(2,.pointer (some ⟨b1,0,none⟩)),(1,.int .i64 (↑n:Int))],[(9,o.map (·.block),tK 93 r j),(10,some b1,.cells #[.int .i64 a,.int .i64 b] 51)])) (fun (k,Gx,r,(o,d,j))=>Gx) (fun (k,Gx,r,(o,d,j))=>k≤n∧G.le Gx∧r.length=k∧Nums Gx r ((vI a b n).take k)∧OwnA o d r j) (fun (k,Gx,r,(o,d,j))=>n - k) ((0,G,[],(none,0,[]))) (⟨aU _,cA _,rfl,by rw [bN];exact Nums.nil _,eW⟩) rfl ⟨rfl,rfl,rfl,rfl,rfl,trivial⟩ ⟨rfl,rfl,trivial⟩ fun ⟨k,Gx,r,(o,d,j)⟩=>fun hk=>?_
 obtain ⟨hk1,hk2,hk3,hk4,hk5⟩:=hk
 rcases aM k n with hke | hke
 · have s1:Au (a ^ (k:Int).toNat):=Hm Cv sV
   have s2:Au (b ^ ((n:Int) - 1 - (k:Int)).toNat):=Hm Cv sV
   refine cF 13 [1] ?_
   refine eB [10,9] [(9,16)] T.mixed [[0],[1],[2,10],[4],[6],[7,10],[9],[10],[11],[12]] ?_
   refine fE 3 ?_
   refine bV 11 rfl (QJ _ _ Cv) fun v1 G1 Ho1 hle1 hp=>?_
   obtain ⟨ro1,rfl,hro1,rfl⟩:=hp
   replace hk4:=hk4.up hle1
   refine bT 5 ?_
   refine bV 11 rfl (PG _ _ _ _ sW Cv sV) fun v2 G2 Ho2 hle2 hp=>?_
   obtain ⟨rp2,rfl,hrp2,rfl⟩:=hp
   replace hro1:=hro1.up hle2
   replace hk4:=hk4.up hle2
   refine bT 8 ?_
   refine bV 11 rfl (QJ _ _ Cv) fun v3 G3 Ho3 hle3 hp=>?_
   obtain ⟨ro3,rfl,hro3,rfl⟩:=hp
   replace hrp2:=hrp2.up hle3
   replace hro1:=hro1.up hle3
   replace hk4:=hk4.up hle3
   refine bT 13 ?_
   refine bV 11 rfl (PG _ _ _ _ sW Cv sV) fun v4 G4 Ho4 hle4 hp=>?_
   obtain ⟨rp4,rfl,hrp4,rfl⟩:=hp
   replace hro3:=hro3.up hle4
   replace hrp2:=hrp2.up hle4
   replace hro1:=hro1.up hle4
   replace hk4:=hk4.up hle4
   refine bT 14 ?_
   refine bV 11 rfl (TV _ _ _ _ _ hrp2 hrp4 s1 s2) fun v5 G5 Ho5 hle5 hp=>?_
   obtain ⟨rt5,rfl,hrt5,rfl⟩:=hp
   replace hrp4:=hrp4.up hle5
   replace hro3:=hro3.up hle5
   replace hrp2:=hrp2.up hle5
   replace hro1:=hro1.up hle5
   replace hk4:=hk4.up hle5
   refine bT 15 ?_
   refine fF (α:=IV) 11 [⟨_,_,_,_⟩] rfl T.sl44 T.el93 rfl rfl rfl rfl rfl fun b2=>?_
   refine bT 16 ?_
   refine kO (α:=IV) 9 T.sl44 T.el93 (fZ 11 rfl) fun a1 c1 junk1 ho1=>?_
   refine dW ?_
   refine eJ [[17]] ?_
   refine dV ?_
   refine gZ 7 [] ?_
   refine cZ 6 rfl (show _=Value.int .i64 ((k+1:Nat):Int) from rfl) ?_
   refine cS ((k+1,_,r++[rt5],(a1,c1,junk1))) ?_ ?_
   · refine ⟨by omega,aZ hk2 (by repeat (first | assumption | refine aZ ?_ sW)),by rw [aI,hk3];rfl,?_,ho1⟩
     have e:(vI a b n).take (k+1)=(vI a b n).take k++[a ^ (k:Int).toNat*b ^ ((n:Int) - 1 - (k:Int)).toNat]:=by
      rw [dE]
      congr 1
      unfold vI
      rw [cK,fK hke,aF,show ((n:Int) - 1 - (k:Int)).toNat=n - 1 - k by omega];rfl
     rw [e]
     exact hk4.snoc hrt5
   show n - (k+1)<n - k
   omega
 have hie:k=n:=sV
 subst hie
 have e:(vI a b k).take k=vI a b k:=dD (by unfold vI;simp)
 rw [e] at hk4
 refine bE 21 [0] ?_
 refine eE 9 rfl hk5 fun G8 hle8 hA8=>?_
 refine bO ?_
 exact ⟨_,_,_,rfl,hA8,hk4.up hle8,hk5.le,rfl⟩
end
section
attribute [local irreducible] sX sZ pb pw tQ tN p2 wG vI
def TX (G:Imm) (s:SV) (zs:List Int):Prop:=∃ l:List IV,l.length=s.n∧s.n≤s.c∧Arr G s.a l∧Nums G l zs
def NGrid (G:Imm) (l:List SV) (rs:List (List Int)):Prop:=l.length=rs.length∧∀ i:Nat,i<l.length→TX G (l[i]?.getD default) (rs[i]?.getD [])
theorem NGrid.nil (G:Imm):NGrid G [] []:=⟨rfl,fun i hi=>by simp at hi⟩
theorem NGrid.snoc {G:Imm} {l:List SV} {rs:List (List Int)} (h:NGrid G l rs) {s:SV} {zs:List Int} (hs:TX G s zs):NGrid G (l++[s]) (rs++[zs]):=by
 refine ⟨by rw [aI,aI,h.1];rfl,fun i hi=>?_⟩
 rw [aI,kL] at hi
 rcases aM i l.length with h1 | h1
 · rw [bH h1,bH (by rw [←h.1];exact h1)];exact h.2 i h1
 have:i=l.length:=sV
 subst this
 rw [cM (aG _),cM (by rw [h.1];exact aG _),jX,h.1,jX]
 exact hs
theorem ZQ (G:Imm) (a:Option Addr) (c:Nat) (l:List R2) (ha:Arr G a l) (h1:l.length≤1048576) (hc:l.length≤c) (hr1:l.length≤15) (hr2:∀ i,i<l.length→IE (l[i]?.getD default)) :
 Does Tryz.prog 137 [.slice a l.length c] G [] (fun v G' Ho=>∃ (s:Option Addr) (r:List SV) (c':Nat),v=.slice s r.length c'∧Arr G' s r∧NGrid G' r (uX l)∧r.length≤c'∧Ho=[]):=by
 refine D0 Tryz.func137 Tryz.ntmps137 fun w=>?_
 refine fO 9 (tK 218 ([]:List SV) []) ?_
 refine cF 17 [] ?_
 refine jQ (ι:=Nat×Imm×List SV×(Option Addr×Nat×List Value)) (fun (i,Gx,r,(o,d,j))=>([(4,.int .i64 (i:Int)),(3,.slice o r.length d),(2,.slice none 0 0),(0,.slice a (List.length l) c)],[(9,o.map (·.block),tK 218 r j)])) (fun (i,Gx,r,(o,d,j))=>Gx) (fun (i,Gx,r,(o,d,j))=>i≤l.length∧G.le Gx∧r.length=i∧NGrid Gx r ((uX l).take i)∧OwnA o d r j) (fun (i,Gx,r,(o,d,j))=>l.length - i) ((0,G,[],(none,0,[]))) (⟨aU _,cA _,rfl,by rw [bN];exact NGrid.nil _,eW⟩) rfl ⟨rfl,rfl,rfl,rfl,trivial⟩ ⟨rfl,trivial⟩ fun ⟨i,Gx,r,(o,d,j)⟩=>fun hk=>?_
 obtain ⟨hi1,hi2,hi3,hi4,hi5⟩:=hk
 replace ha:=ha.up hi2
 rcases aM i l.length with hil | hil
 · have hnear:uO (l[(i:Int).toNat]?.getD default).a (l[(i:Int).toNat]?.getD default).b:=(hr2 i hil).1
   refine aK 18 [1] ?_
   refine dP (α:=R2) T.sl22 ?_
   refine mM T.agg51 ?_
   refine aA 2 [] ?_
   refine bV 10 rfl (TW _ _ _ l.length hnear sV) fun v1 G1 Ho1 hle1 hp=>?_
   obtain ⟨ps1,pr1,pc1,rfl,hpA1,hpB1,hpL1,rfl⟩:=hp
   replace ha:=ha.up hle1
   refine fF (α:=SV) 10 [⟨_,_,_⟩] rfl T.sl212 T.el218 rfl rfl rfl rfl rfl fun b1=>?_
   refine kO (α:=SV) 9 T.sl212 T.el218 (fZ 10 rfl) fun a1 c1 junk1 ho1=>?_
   refine aW 9 [] ?_
   refine cZ 4 rfl (show _=Value.int .i64 ((i+1:Nat):Int) from rfl) ?_
   refine cS ((i+1,_,r++[⟨ps1,pr1.length,pc1⟩],(a1,c1,junk1))) ?_ ?_
   · refine ⟨by omega,aZ hi2 sW,by rw [aI,hi3];rfl,?_,ho1⟩
     have e:(uX l).take (i+1)=(uX l).take i++[vI (l[(i:Int).toNat]?.getD default).a (l[(i:Int).toNat]?.getD default).b l.length]:=by
      rw [dE]
      congr 1
      unfold uX
      rw [cK,aF,aB hil];rfl
     rw [e]
     exact NGrid.snoc (by first | assumption | exact hi4.up sW) ⟨pr1,rfl,hpL1,hpA1,hpB1⟩
   show l.length - (i+1)<l.length - i
   omega
 have hie:i=l.length:=sV
 subst hie
 have e:(uX l).take l.length=uX l:=dD (by unfold uX;rw [bX];exact aG _)
 rw [e] at hi4
 refine bE 22 [0] ?_
 refine eE 9 rfl hi5 fun G8 hle8 hA8=>?_
 refine bO ?_
 exact ⟨_,_,_,rfl,hA8,hi4.up hle8,hi5.le,rfl⟩
end
theorem Uq (G:Imm) (p:PV) (ac ao ga:Option Addr) (cc co gc:Nat) (gl:List SV) (gs:List (List Int)) (N:Nat) (hc:Arr G ac p.code) (ho:Arr G ao p.outs) (hga:Arr G ga gl) (hgg:Grid G gl gs) (hev:Even 4 N gs) (hN:N≤1048576) (hR:tG p=true) (hgi:(gl.length:Int)=p.ins) (hcl:p.code.length≤16384) (hf:tR p gs=none) :
 Does Tryz.prog 133 [.agg #[.int .i64 p.ins,.int .i64 p.regs,.slice ac p.code.length cc,.slice ao p.outs.length co],.slice ga gl.length gc] G [] (fun v G' Ho=>∃ sv bad,v=.tuple #[sv,.int .i64 bad,.slice none 0 0]∧0≤bad∧Ho=[]):=by
 refine (TN G p ac ao ga cc co gc gl gs N hc ho hga hgg hev hN hR hgi hcl).mono fun v G' Ho _ ⟨sv,bad,ov,e,h1,h2,h3⟩=>?_
 obtain ⟨e1,e2⟩:=h1 hf
 subst e2
 exact ⟨sv,bad,e,e1,h3⟩
theorem Is (G:Imm) (p:PV) (ac ao ga:Option Addr) (cc co gc:Nat) (gl:List SV) (gs:List (List Int)) (N:Nat) (hc:Arr G ac p.code) (ho:Arr G ao p.outs) (hga:Arr G ga gl) (hgg:Grid G gl gs) (hev:Even 4 N gs) (hN:N≤1048576) (hR:tG p=true) (hgi:(gl.length:Int)=p.ins) (hcl:p.code.length≤16384) (os:List (List Int)) (hf:tR p gs=some os) :
 Does Tryz.prog 133 [.agg #[.int .i64 p.ins,.int .i64 p.regs,.slice ac p.code.length cc,.slice ao p.outs.length co],.slice ga gl.length gc] G [] (fun v G' Ho=>∃ sv oa oc ol,v=.tuple #[sv,.int .i64 (-1),.slice oa ol.length oc]∧Arr G' oa ol∧Grid G' ol os∧Ho=[]):=by
 refine (TN G p ac ao ga cc co gc gl gs N hc ho hga hgg hev hN hR hgi hcl).mono fun v G' Ho _ ⟨sv,bad,ov,e,h1,h2,h3⟩=>?_
 obtain ⟨e1,oa,oc,ol,e2,e3,e4⟩:=h2 os hf
 subst e1 e2
 exact ⟨sv,oa,oc,ol,e,e3,e4,h3⟩
theorem xQ {p:PV} {gs os:List (List Int)} (h:tR p gs=some os):os.length=p.outs.length:=by
 unfold tR at h
 obtain ⟨rs,h1,h2⟩:=gA.1 h
 subst h2
 unfold vO;rw [bX]
theorem II (G:Imm) (s t:SV) (xs ys:List Int) (hs:yM G s xs) (ht:yM G t ys) (m:Nat) (hm:m≤1073741824) (bx:Go.Sl.Below m xs) (by':Go.Sl.Below m ys) (h1:s.n≤1048576) (h2:t.n≤1048576) :
 Does Tryz.prog 139 [.slice s.a s.n s.c,.slice t.a t.n t.c] G [] (fun v G' Ho=>v=.bool (decide (xs=ys))∧G'=G∧Ho=[]):=by
 obtain ⟨sa,sn,sc⟩:=s
 obtain ⟨ta,tn,tc⟩:=t
 obtain ⟨l,hl,hc,hA,hN⟩:=hs
 obtain ⟨l',hl',hc',hA',hN'⟩:=ht
 simp only at hl hc hA h1 hl' hc' hA' h2
 subst hl hl'
 exact YZ G sa ta sc tc l l' xs ys hA hA' hN hN' m hm bx by' sV sV
theorem Ur {p:PV} {gs:List (List Int)} {N:Nat} (hR:tG p=true) (hev:Even 4 N gs) (h0:0<gs.length):∀ (k:Nat) (rs:List (List Int)),k≤p.code.length→yD p gs k=some rs→Even (4+5*k) N rs∧rs.length=p.regs.toNat
 | 0,rs,_,h=>by
   cases h
   exact ⟨Lh hev h0,Cn p gs⟩
 | k+1,rs,hk,h=>by
   obtain ⟨f1,f2,f3,f4,f5,f6,f7,f8⟩:=wT hR
   unfold yD at h
   obtain ⟨rs0,h1,h2⟩:=Option.bind_eq_some_iff.1 h
   obtain ⟨y,h3,h4⟩:=gA.1 h2
   obtain ⟨he,hl⟩:=Ur hR hev h0 k rs0 sV h1
   subst h4
   have hmem:(p.code[(k:Int).toNat]?.getD default)∈p.code:=by
    rw [aF,aB sV];exact dJ _
   obtain ⟨m1,m2,m3,m4,m5,m6,m7,m8⟩:=Hg (f8 _ hmem)
   have hx:=Um (i:=p.code[(k:Int).toNat]?.getD default) he sV (fun h=>by have:=m4 h;omega) (fun h=>(m6 sV sV sV sV).2) h3
   refine ⟨?_,by rw [aH];exact hl⟩
   rw [show 4+5*(k+1)=5+(4+5*k) by omega]
   exact Un (he.mono sV) hx _
theorem It {p:PV} {gs os:List (List Int)} {N:Nat} (hR:tG p=true) (hev:Even 4 N gs) (h0:0<gs.length) (h:tR p gs=some os):Even (4+5*p.code.length) N os:=by
 obtain ⟨f1,f2,f3,f4,f5,f6,f7,f8⟩:=wT hR
 unfold tR at h
 obtain ⟨rs,h1,h2⟩:=gA.1 h
 obtain ⟨he,hl⟩:=Ur hR hev h0 _ rs (aG _) h1
 subst h2
 intro zs hz
 unfold vO at hz
 obtain ⟨r,hr,rfl⟩:=dY.1 hz
 exact he.at (k:=r) (by have:=f7 r hr;omega)
theorem Do {G:Imm} {l:List SV} {rs:List (List Int)} (h:NGrid G l rs):Grid G l rs:=⟨h.1,h.2⟩
theorem Dp (l:List R2):(uX l).length=l.length:=by unfold uX;rw [bX]
theorem Hn {a b:Int} {n:Nat} (h:uO a b) (hn:n≤15):(vI a b n).length=n∧Go.Sl.Below 4 (vI a b n):=by
 refine ⟨by unfold vI;rw [bX,iJ],fun z hz=>?_⟩
 unfold vI at hz
 obtain ⟨k,hk,rfl⟩:=dY.1 hz
 have hk:=qQ.1 hk
 have e4:pw 4=18446744073709551616:=by unfold pw;decide
 have e:(a ^ k*b ^ (n - 1 - k)).natAbs≤16 ^ 15:=by
  rw [nC,oY,oY]
  refine aO (iX (iN (show a.natAbs≤16 by unfold uO at h;omega) k) (iN (show b.natAbs≤16 by unfold uO at h;omega) _)) ?_
  rw [←mR]
  exact eT sV sV
 have e3:(16:Nat) ^ 15=1152921504606846976:=tF
 omega
theorem Lj {l:List R2} (h1:l.length≤15) (hr:∀ i,i<l.length→uO (l[i]?.getD default).a (l[i]?.getD default).b):Even 4 l.length (uX l):=fun zs hz=>by
 unfold uX at hz
 obtain ⟨p,hp,rfl⟩:=dY.1 hz
 obtain ⟨i,hi,rfl⟩:=lD.1 hp
 have:=hr i hi
 rw [aB hi] at this
 have this:uO l[i].a l[i].b:=this
 exact Hn this h1
def uS (n j:Nat):List Int:=(List.replicate n 0).set j 1
theorem Pc {G:Imm} {n j:Nat} {x:IV} (hx:Num G x 1) (hj:j<n):Nums G ((List.replicate n (default:IV)).set j x) (uS n j):=by
 unfold uS
 refine ⟨by rw [aH,aH,aE,aE],fun i hi=>?_⟩
 rw [aH,aE] at hi
 rw [fD,fD]
 by_cases h:j=i
 · subst h
   rw [aR rfl,aR rfl,aR (by rw [aE];exact hj),aR (by rw [aE];exact hj)]
   exact hx
 rw [aL h,aL h,fP,fP,aR hi,aR hi]
 exact Num.zero G
theorem Dq (n j m:Nat) (hm:1≤m):Go.Sl.Below m (uS n j):=by
 have h1:pw 1=65536:=by unfold pw;decide
 refine Go.Sl.Below.mono (m:=1) (fun z hz=>?_) hm
 unfold uS at hz
 rcases gX hz with h | h
 · rw [jN h,h1];decide
 rw [h,h1];decide
def vB (p:PV) (l:List R2):Prop:=tG p=true∧p.ins=l.length∧p.outs.length=l.length∧tR p (uX l)=some ((List.range l.length).map (uS l.length))
instance (p:PV) (l:List R2):Decidable (vB p l):=inferInstanceAs (Decidable (_∧_))
section
attribute [local irreducible] sX sZ pb pw tQ tN p2 vI uX tR tG
theorem TY (G:Imm) (n:Nat) (hn:n≤1048576) :
 Does Tryz.prog 138 [.int .i64 (n:Int)] G [] (fun v G' Ho=>∃ b,v=.slice (some ⟨b,0,none⟩) (List.replicate n (default:IV)).length n∧G'=G∧OwnA (some ⟨b,0,none⟩) n (List.replicate n (default:IV)) []∧Ho=[(0,some b,tK 93 (List.replicate n (default:IV)) [])]):=by
 refine D0 Tryz.func138 Tryz.ntmps138 fun w=>?_
 refine aK 8 [] ?_
 refine iC (α:=IV) 0 rfl T.sl218 T.el93 rfl rfl sV sV fun b1=>?_
 refine aW 4 [] ?_
 have e:(List.replicate ((n:Int)).toNat (default:IV)).length=n:=Az
 refine dL (.inr rfl) (Ho:=[(0,some b1,tK 93 (List.replicate n (default:IV)) [])]) rfl (.tmp rfl) ⟨rfl,trivial⟩ ?_
 refine ⟨b1,by simp,rfl,.inr ⟨b1,rfl,by rw [aE];rfl,by rw [aE];exact aG _,by simp only [maxLen];omega⟩,rfl⟩
theorem c78 (G:Imm) (p:PV) (ac ao a:Option Addr) (cc co c:Nat) (l:List R2) (hc:Arr G ac p.code) (ho:Arr G ao p.outs) (ha:Arr G a l) (hcl:p.code.length≤16384) (hol:p.outs.length≤1099511627776) (hlc:l.length≤c) (hr0:1≤l.length) (hr1:l.length≤15) (hr2:∀ i,i<l.length→IE (l[i]?.getD default)) :
 Does Tryz.prog 78 [.agg #[.int .i64 p.ins,.int .i64 p.regs,.slice ac p.code.length cc,.slice ao p.outs.length co],.slice a l.length c] G [] (fun v G' Ho=>v=.bool (decide (vB p l))∧Ho=[]):=by
 have hr:∀ i,i<l.length→uO (l[i]?.getD default).a (l[i]?.getD default).b:=fun i hi=>(hr2 i hi).1
 have hev:=Lj hr1 hr
 refine D0 Tryz.func78 Tryz.ntmps78 fun w=>?_
 refine aK 2 [] ?_
 refine cV 0 fun b1=>?_
 refine aJ 6 [0] ?_
 refine bW rfl (XE _ p _ _ _ _ sW sW sV sV) ?_
 refine aJ 7 [] ?_
 refine aN (dK rfl) ?_
 refine aA 1 [] ?_
 apply bZ 6 15 21 rfl
 intro hg1
 refine aA 11 [0] ?_
 exact cU 6 0
 intro hg1
 refine aA 6 [] ?_
 exact cU 6 0
 refine aA 1 [] ?_
 apply bZ 7 22 29 rfl
 intro hg1
 refine aA 13 [0] ?_
 exact cU 7 0
 intro hg1
 refine aA 7 [] ?_
 exact cU 7 0
 refine bJ 2 [] ?_
 refine dN (fun hc1=>?_) fun hc1=>?_
 refine bE 7 [] ?_
 rotate_left
 refine cF 3 [] ?_
 refine eB [0] [(0,3)] T.mixed [[0,0],[1]] ?_
 refine fE 2 ?_
 refine bV 1 rfl (ZQ _ _ _ l sW sV hlc hr1 hr2) fun v1 G1 Ho1 hle1 hp=>?_
 obtain ⟨ws1,wr1,wc1,rfl,hwA1,hwB1,hwL1,rfl⟩:=hp
 replace hc:=hc.up hle1
 replace ho:=ho.up hle1
 replace ha:=ha.up hle1
 refine bT 3 ?_
 rotate_left
 · refine bO ?_
   refine ⟨?_,rfl⟩
   congr 1
   refine (bF fun h=>?_).symm
   obtain ⟨h1,h2,h3,_⟩:=h
   rcases hc1 with (h | h) | h
   · exact h h1
   · exact h h2
   omega
 have hR:tG p=true:=dO fun h=>hc1 (.inl (.inl h))
 have hpi:p.ins=l.length:=dO fun h=>hc1 (.inl (.inr h))
 have hpo:p.outs.length=l.length:=dO fun h=>hc1 (.inr sV)
 have hwl:wr1.length=l.length:=hwB1.1.trans (Dp l)
 cases hf:tR p (uX l) with
 | none =>
   refine bV 1 rfl (Uq _ p _ _ _ _ _ _ _ (uX l) l.length sW sW sW (Do hwB1) hev sV hR sV hcl hf) fun v2 G2 Ho2 hle2 hp=>?_
   obtain ⟨sv2,bad2,rfl,hbad2,rfl⟩:=hp
   replace hwA1:=hwA1.up hle2
   replace hc:=hc.up hle2
   replace ho:=ho.up hle2
   replace ha:=ha.up hle2
   refine dW ?_
   refine eJ [[4],[5],[6],[7],[8],[9],[10]] ?_
   refine dV ?_
   refine gZ 16 [1] ?_
   refine bO ?_
   refine ⟨?_,rfl⟩
   congr 1
   refine (bF fun h=>?_).symm
   have h4:=h.2.2.2
   rw [hf] at h4
   cases h4
 | some os =>
   refine bV 1 rfl (Is _ p _ _ _ _ _ _ _ (uX l) l.length sW sW sW (Do hwB1) hev sV hR sV hcl os hf) fun v2 G2 Ho2 hle2 hp=>?_
   obtain ⟨sv2,oa2,oc2,ol2,rfl,hoA2,hoG2,rfl⟩:=hp
   replace hwA1:=hwA1.up hle2
   replace hc:=hc.up hle2
   replace ho:=ho.up hle2
   replace ha:=ha.up hle2
   refine dW ?_
   refine eJ [[4],[5],[6],[7],[8],[9],[10]] ?_
   refine dV ?_
   refine oJ 18 [0] ?_
   have hol2:ol2.length=l.length:=by rw [hoG2.1,xQ hf,hpo]
   have hose:=It hR hev (by rw [Dp];omega) hf
   refine rX (ι:=Nat×Imm) (fun (j,Gx)=>([(9,.int .i64 (j:Int)),(8,.slice oa2 (List.length ol2) oc2),(1,.slice a (List.length l) c)],[(0,some b1,.cells #[.int .i64 p.ins,.int .i64 p.regs,.slice ac p.code.length cc,.slice ao p.outs.length co] 26)])) (fun (j,Gx)=>Gx) (fun (j,Gx)=>j≤l.length∧G2.le Gx∧(∀ i,i<j→os[i]?.getD []=uS l.length i)) (fun (j,Gx)=>l.length - j) ((0,G2)) (⟨aU _,cA _,fun i h=>absurd h sV⟩) fun ⟨j,Gx⟩=>fun hk=>?_
   obtain ⟨hj1,hj2,hj3⟩:=hk
   replace ha:=ha.up hj2
   replace hoA2:=hoA2.up hj2
   rcases aM j l.length with hjl | hjl
   · refine aK 18 [1] ?_
     refine bV 20 rfl (TY _ l.length sV) fun v3 G3 Ho3 hle3 hp=>?_
     obtain ⟨ub,rfl,rfl,huo,rfl⟩:=hp
     refine aJ 7 [] ?_
     refine bV 21 rfl (QJ _ 1 tF) fun v4 G4 Ho4 hle4 hp=>?_
     obtain ⟨ro4,rfl,hro4,rfl⟩:=hp
     replace ha:=ha.up hle4
     replace hoA2:=hoA2.up hle4
     refine aN (lS (α:=IV) T.sl218 rfl rfl huo Az) ?_
     refine eX (α:=IV) (z:=ro4) 20 T.size93 rfl rfl rfl huo Az rfl fun huo2=>?_
     refine aJ 6 [] ?_
     refine dP (α:=SV) T.sl212 ?_
     refine fQ 0 T.one218 ?_
     refine aA 1 [] ?_
     have hRow:yM G4 (ol2[(j:Int).toNat]?.getD default) (os[j]?.getD []):=(hoG2.up (aZ hj2 hle4)).2 j sV
     have hose2:(os[j]?.getD []).length=l.length∧Go.Sl.Below (4+5*p.code.length) (os[j]?.getD []):=hose.at (k:=(j:Int)) (by rw [xQ hf];omega)
     refine oW 30 rfl T.fn139 rfl (fun Gy hGy hgy=>II Gy (ol2[(j:Int).toNat]?.getD default) ⟨some ⟨ub,0,none⟩,(List.replicate l.length (default:IV)).length,l.length⟩ (os[j]?.getD []) (uS l.length j) (hRow.up hGy)
      ⟨(List.replicate l.length (default:IV)).set j ro4,by rw [aH],by rw [aE];exact aG _,nI hgy 20 rfl huo2,Pc (hro4.up hGy) hjl⟩ (4+5*p.code.length) sV hose2.2 (Dq _ _ _ sV) ?_ ?_) (fun v5 Gy5 G5 Ho5 hle5 hp=>?_)
     · obtain ⟨q,hq1,_,_,hq4⟩:=hRow
       rw [←hq1,hq4.1,hose2.1];omega
     · show (List.replicate l.length (default:IV)).length≤1048576
       rw [aE];omega
     obtain ⟨rfl,rfl,rfl⟩:=hp
     refine aN (dK rfl) ?_
     refine bJ 2 [] ?_
     refine dN (fun hc2=>?_) fun hc2=>?_
     refine bE 11 [] ?_
     rotate_left
     refine bE 8 [] ?_
     rotate_left
     · refine bO ?_
       refine ⟨?_,rfl⟩
       congr 1
       refine (bF fun h=>?_).symm
       have h4:=h.2.2.2
       rw [hf] at h4
       have h5:os=(List.range l.length).map (uS l.length):=lZ h4
       refine hc2 ?_
       rw [h5,cK,fK hjl];rfl
     refine cZ 9 rfl (show _=Value.int .i64 ((j+1:Nat):Int) from rfl) ?_
     refine cS ((j+1,_)) ?_ ?_
     · refine ⟨hjl,aZ hj2 hle4,fun i hi=>?_⟩
       rcases aM i j with h | h
       · exact hj3 i h
       have e:i=j:=sV
       subst e
       exact dO fun h=>hc2 h
     show l.length - (j+1)<l.length - j
     omega
   have hje:j=l.length:=sV
   subst hje
   refine bE 21 [0] ?_
   refine bO ?_
   refine ⟨?_,rfl⟩
   congr 1
   refine (cL ⟨hR,hpi,hpo,?_⟩).symm
   rw [hf]
   congr 1
   have hosl:os.length=l.length:=by rw [xQ hf,hpo]
   apply jS
   · rw [hosl,bX,iJ]
   intro i h1 h2
   have h3:=hj3 i sV
   rw [aB h1] at h3
   rw [iW,mG]
   exact h3
end
theorem TZ (G:Imm) (k:Int):Does Tryz.prog 163 [.int .i64 k] G [] (fun v G' Ho=>v=.bool (decide (1≤k∧k≤8))∧G'=G∧Ho=[]):=by
 refine D0 Tryz.func163 Tryz.ntmps163 fun w=>?_
 refine dT ?_
 refine cX rfl ?_
 refine aA 1 [] ?_
 refine eH ?_
 refine cE ?_
 refine dT ?_
 refine cX rfl ?_
 refine aA 3 [] ?_
 apply cW 3 5 8 rfl
 intro hg1
 refine aA 5 [] ?_
 exact cU 3 0
 intro hg1
 refine aA 3 [] ?_
 exact cU 3 0
 refine aA 1 [] ?_
 refine eH ?_
 refine cE ?_
 refine nN ?_
 refine bO ?_
 exact ⟨rfl,rfl,rfl⟩
theorem ZR (G:Imm) (a:Option Addr) (c:Nat) (l:List R2) (ha:Arr G a l) (h1:l.length≤1048576):Does Tryz.prog 206 [.slice a l.length c,.func (.func 166) #[] #[]] G [] (fun v G' Ho=>∃ z:Int,v=.int .i64 z∧(0≤z↔∃ i,i<l.length∧((l[i]?.getD default).a=0∧(l[i]?.getD default).b=0))∧G'=G∧Ho=[]):=by
 refine D0 Tryz.func206 Tryz.ntmps206 fun w=>?_
 refine dT ?_
 refine cX rfl ?_
 refine aA 1 [] ?_
 refine eH ?_
 refine cE ?_
 refine dT ?_
 refine dT ?_
 refine cX rfl ?_
 refine aA 3 [] ?_
 refine eH ?_
 refine cE ?_
 refine Wc.block ?_
 refine gC (ι:=Nat) (fun j=>([(8,.int .i64 (j:Int)),(0,.slice a l.length c),(1,.func (.func 166) #[] #[]),(7,.int .i64 (l.length:Int))],[])) (fun j=>j≤l.length∧∀ i,i<j→¬((l[i]?.getD default).a=0∧(l[i]?.getD default).b=0)) (fun j=>l.length - j) (0) (⟨aU _,fun j' h=>absurd h sV⟩) fun j=>fun hk=>?_
 obtain ⟨hj,hno⟩:=hk
 refine dT ?_
 refine cX rfl ?_
 refine aA 1 [] ?_
 refine eH ?_
 refine cE ?_
 refine dT ?_
 refine dN (fun hc1=>?_) fun hc1=>?_
 refine lV ?_
 refine cE ?_
 refine dT ?_
 refine Wc.block ?_
 refine dT ?_
 refine cX rfl ?_
 refine aA 2 [] ?_
 refine eH ?_
 refine cE ?_
 refine dT ?_
 refine cX rfl ?_
 refine aA 3 [] ?_
 refine dP (α:=R2) T.sl22 ?_
 refine mM T.agg51 ?_
 rotate_left
 refine Wc.exit ?_
 refine qZ ?_
 refine qZ ?_
 refine Ar.here ?_
 refine cE ?_
 refine dT ?_
 refine cX rfl ?_
 refine aA 1 [] ?_
 refine eH ?_
 refine cE ?_
 refine nN ?_
 refine bO ?_
 rotate_left
 · refine iG (fst:=[]) (cap:=[]) 2 rfl T.fn166 rfl rfl (TP _ (l[(j:Int).toNat]?.getD default).a (l[(j:Int).toNat]?.getD default).b) (uH trivial) fun v1 G1 Ho1 hle1 hp=>?_
   obtain ⟨rfl,rfl,rfl⟩:=hp
   refine eH ?_
   refine cE ?_
   refine dN (fun hc2=>?_) fun hc2=>?_
   refine dT ?_
   refine cX rfl ?_
   refine aA 2 [] ?_
   refine eH ?_
   refine cE ?_
   refine nN ?_
   refine Gp ?_
   refine qF ?_
   refine qF ?_
   refine Gp ?_
   refine qF ?_
   refine bO ?_
   rotate_left
   refine lV ?_
   refine sI ?_
   refine cE ?_
   refine cX rfl ?_
   refine aA 2 [] ?_
   refine eH ?_
   rotate_left
   · exact ⟨(j:Int),rfl,⟨fun _=>⟨j,by omega,hc2⟩,fun _=>by omega⟩,rfl,rfl⟩
   refine cZ 8 rfl (show _=Value.int .i64 ((j+1:Nat):Int) from rfl) ?_
   refine cS (j+1) ?_ ?_
   · refine ⟨by omega,fun i' h2=>?_⟩
     rcases aM i' j with h | h
     · exact hno i' h
     have e:i'=j:=sV
     subst e;exact hc2
   omega
 exact ⟨-1,rfl,⟨fun h=>absurd h sV,fun ⟨i,hi,h⟩=>absurd h (hno i sV)⟩,rfl,rfl⟩
theorem ZS (G:Imm) (a:Option Addr) (c:Nat) (l:List R2) (ha:Arr G a l) (h1:l.length≤1048576):Does Tryz.prog 165 [.slice a l.length c,.func (.func 166) #[] #[]] G [] (fun v G' Ho=>∃ b:Bool,v=.bool b∧(b=true↔∃ i,i<l.length∧((l[i]?.getD default).a=0∧(l[i]?.getD default).b=0))∧G'=G∧Ho=[]):=by
 refine D0 Tryz.func165 Tryz.ntmps165 fun w=>?_
 refine dT ?_
 refine cX rfl ?_
 refine aA 1 [] ?_
 refine eH ?_
 refine cE ?_
 refine dT ?_
 refine cX rfl ?_
 refine aA 2 [] ?_
 refine bV 0 rfl (ZR _ _ _ _ sW sV) fun v1 G1 Ho1 hle1 hp=>?_
 obtain ⟨tz1,rfl,htz1,rfl,rfl⟩:=hp
 refine aA 2 [] ?_
 refine eH ?_
 refine cE ?_
 refine nN ?_
 refine bO ?_
 exact ⟨decide (0≤tz1),rfl,by rw [aT];exact htz1,rfl,rfl⟩
theorem ZT (G:Imm) (a:Option Addr) (c:Nat) (l:List R2) (ha:Arr G a l) (hl:l.length≤1048576) :
 Does Tryz.prog 25 [.slice a l.length c] G [] (fun v G' Ho=>∃ s d j,v=.slice s l.length d∧OwnA s d l j∧G'=G∧Ho=[(0,s.map (·.block),tK 51 l j)]):=by
 refine D0 Tryz.func25 Tryz.ntmps25 fun w=>?_
 by_cases hne:a=none
 · subst hne
   have hl0:l=[]:=by
    rcases ha.2 with h0 | ⟨_,_,h,_⟩
    · exact List.length_eq_zero_iff.mp h0
    cases h
   subst hl0
   refine fO 0 (tK 51 ([]:List R2) []) ?_
   refine aK 9 [] ?_
   refine aN (gH T.sl22 rfl rfl) ?_
   refine bJ 2 [] ?_
   refine dN (fun hc1=>?_) fun hc1=>?_
   refine bE 7 [] ?_
   rotate_left
   refine aK 4 [] ?_
   refine rA 1 rfl T.sl22 fun b1=>?_
   refine aA 1 [] ?_
   rotate_left
   refine dL (.inr rfl) (Ho:=[(0,none,tK 51 ([]:List R2) [])]) rfl (.tmp rfl) ⟨rfl,trivial⟩ ?_
   · exact ⟨none,0,[],rfl,eW,rfl,rfl⟩
   exact absurd rfl hc1
 refine aK 9 [] ?_
 refine aN (gH T.sl22 rfl rfl) ?_
 refine aJ 7 [0] ?_
 refine rA 0 rfl T.sl22 fun b1=>?_
 refine aA 1 [] ?_
 refine oV 0 (tK 51 ([]:List R2) []) rfl rfl ?_
 refine nM (α:=R2) (xs:=[]) (ys:=l) (junk:=[]) 0 rfl T.sl22 T.el51 rfl rfl rfl (.inr ⟨b1,rfl,rfl,aG _,aU _⟩) (qB ha) (by rw [cT];omega) FA fun a1 c1 junk1 ho1=>?_
 rw [fT] at ho1 ⊢
 refine aW 4 [] ?_
 refine dL (.inr rfl) (Ho:=[(0,a1.map (·.block),tK 51 l junk1)]) rfl (.tmp rfl) ⟨rfl,trivial⟩ ?_
 exact ⟨a1,c1,junk1,rfl,ho1,rfl,rfl⟩
end Go.Proofs.YtngphgeghfdjbaaGreatDoor
