/- cK of the proof (part 5): what the rows' text needs of the texts that lead to it. -/
import Derived.Test.YtfdcckcadfhpeaaGreatDoorMAd
set_option linter.unusedVariables false
set_option linter.unusedSimpArgs false
set_option linter.unusedSectionVars false
set_option maxHeartbeats 4000000
set_option maxRecDepth 100000
namespace Go.Proofs.YtfdcckcadfhpeaaGreatDoor
open Go Go.Sl
section
variable {B:Bs} {e:Env} {D:List Deferred} {H:Hp} {G:Imm}
theorem retagH {a:Act} {w:World} (hh:Hold B ⟨e,D,H,G⟩ a w) (t t':Nat) {k:Option Nat} {o:Obj} (ht:H.get t=some (k,o)) (hn:t≠t') (hk:H.get t'=none∨True):Hold B ⟨e,D,(t',k,o) :: (t,none,o) :: H,G⟩ a w:=by
 have key:∀ i b o',Hp.get ((t',k,o) :: (t,none,o) :: H) i=some (some b,o')→(i=t'∧H.get t=some (some b,o'))∨(i≠t'∧i≠t∧H.get i=some (some b,o')):=fun i b o' hx=>by
  rw [aK] at hx
  split at hx
  · rename_i hi;left;refine ⟨hi.symm,?_⟩;rw [ht];exact hx
  rename_i hi
  rw [aK] at hx
  split at hx
  · simp at hx
  rename_i hi2;exact .inr ⟨fun h=>hi h.symm,fun h=>hi2 h.symm,hx⟩
 refine ⟨hh.size,hh.defers,hh.env,⟨?_,?_,hh.mem.imm,?_⟩,hh.upd,?_,hh.le,hh.new⟩
 · intro i b o' hx
   rcases key i b o' hx with ⟨_,h⟩ | ⟨_,_,h⟩
   · exact hh.mem.own _ b o' h
   exact hh.mem.own _ b o' h
 · intro i i' b o1 o2 hx hy
   rcases key i b o1 hx with ⟨h1,h2⟩ | ⟨h1,h1',h2⟩ <;> rcases key i' b o2 hy with ⟨h3,h4⟩ | ⟨h3,h3',h4⟩
   · rw [h1,h3]
   · exact absurd (hh.mem.one _ _ b _ _ h2 h4).symm h3'
   · exact absurd (hh.mem.one _ _ b _ _ h2 h4) h1'
   exact hh.mem.one _ _ b _ _ h2 h4
 · intro i b o' hx
   rcases key i b o' hx with ⟨_,h⟩ | ⟨_,_,h⟩
   · exact hh.mem.off _ b o' h
   exact hh.mem.off _ b o' h
 intro i b o' hx
 rcases key i b o' hx with ⟨_,h⟩ | ⟨_,_,h⟩
 · exact hh.mine _ b o' h
 exact hh.mine _ b o' h
theorem Ar.retag {x:Exit} {Q:Exit→Act→World→Prop} (t t':Nat) {k:Option Nat} {o:Obj} (ht:H.get t=some (k,o)) (hn:Nat.beq t t'=false) (h:Ar Q x B ⟨e,D,(t',k,o) :: (t,none,o) :: H,G⟩):Ar Q x B ⟨e,D,H,G⟩:=
 fun a w hh=>h a w (retagH hh t t' ht (fun e=>by subst e;simp at hn) (.inr trivial))
end
def aSC (G:Imm) (la lb:List U32) (v:Value):Prop:=∃ (qa ra:Option Addr) (qc rc:Nat) (lq lr:List U32),v=.tuple #[.slice qa lq.length qc,.slice ra lr.length rc]∧Arr G qa lq∧Arr G ra lr∧Digs lq∧Digs lr∧
 aD la=aD lq*aD lb+aD lr∧aD lr<aD lb∧lq.length≤qc∧lr.length≤rc∧lq.length≤la.length∧lr.length≤lb.length
theorem c279 (G:Imm) (a b:Option Addr) (ca cb:Nat) (la lb:List U32) (ha:Arr G a la) (hb:Arr G b lb) (da:Digs la) (db:Digs lb) (tb:Top lb) (h1:la.length≤536870912) (h2:lb.length≤536870912) (hB:0<aD lb) :
 Does Tryz.prog 279 [.slice a la.length ca,.slice b lb.length cb] G [] (fun v G' Ho=>aSC G' la lb v∧Ho=[]):=by
 have key:Does Tryz.prog 279 [.slice a la.length ca,.slice b lb.length cb] G [] (fun v G' Ho=>aMA G' la lb v∧Ho=[]):=by
  by_cases h:lb.length=1
  · exact c279S G a b ca cb la lb ha hb da db tb h1 h
  exact c279L G a b ca cb la lb ha hb da db tb h1 h2 h hB
 refine key.mono fun v G' Ho _ ⟨⟨qa,ra,qc,rc,lq,lr,q1,q2,q3,q4,q5,q6,q7,q8,q9,q10,q11,q12⟩,q13⟩=>?_
 exact ⟨⟨qa,ra,qc,rc,lq,lr,q1,q2,q3,q4,q6,q8,q9,q10,q11,q12,iD db q6 q7 (Int.le_of_lt q9)⟩,q13⟩
theorem Num.len {G:Imm} {x:IV} {z:Int} (h:Num G x z) {m:Nat} (hz:(z.natAbs:Int)<pw m):x.n≤m:=by
 obtain ⟨l,h1,_,_,h4⟩:=h
 rw [←h1];exact h4.len hz
theorem aQA (G:Imm) (x y:IV) (zx zy:Int) (hx:Num G x zx) (hy:Num G y zy) (h1:x.n≤1073741824) (h2:y.n≤1073741824) :
 Does Tryz.prog 281 [.agg (Cells.enc x).toArray,.agg (Cells.enc y).toArray] G [] (fun v G' Ho=>∃ r:IV,v=.agg (Cells.enc r).toArray∧Num G' r (zx - zy)∧Ho=[]):=by
 obtain ⟨n1,a,k1,ca⟩:=x
 obtain ⟨n2,b,k2,cb⟩:=y
 obtain ⟨la,hl,hlc,hA,hI⟩:=hx
 obtain ⟨lb,hl',hlc',hA',hI'⟩:=hy
 simp only at hl hlc hA hI hl' hlc' hA' hI' h1 h2
 subst hl hl'
 exact c281 G n1 n2 a b ca cb la lb zx zy hA hA' hI hI' h1 h2 hlc'
theorem aMI (z:Int):((sgZ z).natAbs:Int)<pw 1:=by have:=aDW z;have:pw 1=65536:=(by decide);omega
theorem aMJ {l:List U32} {n:Nat} (h:TrimTo l n) (hd:Digs l) (hn:0<n):0<aD l:=by
 have h1:=h.len
 have:=sZ (hd.take n) h.top (fun e=>by rw [e] at h1;simp at h1;omega)
 rwa [h.val] at this
theorem aIJ {l:List U32} (h:TrimTo l 0):aD l=0:=by
 have:=h.val
 rw [List.take_zero,cR] at this
 exact this.symm
theorem aMK {n1:Bool} {lr1:List U32} {tm:Nat} {q x y:Int} (hx:x=q*y+(if n1=true then -aD lr1 else aD lr1)) (hy:y≠0) (hl:aD lr1<y.natAbs) (h:(n1 && decide (0<tm))=true) (ht:TrimTo lr1 tm) (hd:Digs lr1) :
 q - sgZ y=x / y∧(if n1=true then -aD lr1 else aD lr1)+(y.natAbs:Int)=x % y:=by
 rw [Bool.and_eq_true,decide_eq_true_eq] at h
 have hp:=aMJ ht hd h.2
 have e:=h.1
 subst e
 rw [if_pos rfl] at hx ⊢
 exact tC hy (aFP hx) (by omega) (by omega)
theorem aIK {n1:Bool} {lr1:List U32} {tm:Nat} {q x y:Int} (hx:x=q*y+(if n1=true then -aD lr1 else aD lr1)) (hy:y≠0) (hl:aD lr1<y.natAbs) (h:(n1 && decide (0<tm))=false) (ht:TrimTo lr1 tm) (hd:Digs lr1) :
 q=x / y∧(if n1=true then -aD lr1 else aD lr1)=x % y:=by
 have hn:=cH hd
 refine tC hy hx ?_ ?_
 · cases n1 with
   | false=>rw [if_neg (by decide)];exact hn
   | true =>
     have h0:tm=0:=by
      rw [Bool.true_and,decide_eq_false_iff_not] at h
      omega
     subst h0
     rw [if_pos rfl,aIJ ht]
     omega
 split <;> omega
section
attribute [local irreducible] aD pw bL p2
theorem c268 (G:Imm) (n1 n2:Bool) (a b:Option Addr) (ca cb:Nat) (la lb:List U32) (x y:Int) (ha:Arr G a la) (hb:Arr G b lb) (hx:IsInt n1 la x) (hy:IsInt n2 lb y) (h1:la.length≤536870912) (h2:lb.length≤536870912) (hcb:lb.length≤cb) (hy0:y≠0) :
 Does Tryz.prog 268 [.agg #[.bool n1,.slice a la.length ca],.agg #[.bool n2,.slice b lb.length cb]] G [] (fun v G' Ho=>∃ q r:IV,v=.tuple #[.agg (Cells.enc q).toArray,.agg (Cells.enc r).toArray]∧Num G' q (x / y)∧Num G' r (x % y)∧Ho=[]):=by
 have da:=hx.digs
 have db:=hy.digs
 have tb:=hy.top
 have va:=hx.abs
 have vb:=hy.abs
 have hB:0<aD lb:=by omega
 refine D0 Tryz.func268 Tryz.ntmps268 fun w=>?_
 refine Wc.gl 2 [] ?_
 refine Wl.x 0 fun b1=>?_
 refine Wl.x 1 fun b2=>?_
 refine Wl.alloc 2 rfl T.zero190 fun b3=>?_
 refine Wl.alloc 3 rfl T.zero190 fun b4=>?_
 refine Wl.gl 8 [0,1] ?_
 refine Wl.k 4 rfl (c279 _ _ _ _ _ _ _ ‹_› ‹_› ‹_› ‹_› ‹_› ‹_› ‹_› ‹_›) fun v1 G1 Ho1 hle1 hp=>?_
 obtain ⟨⟨qa1,ra1,qc1,rc1,lq1,lr1,rfl,hqa1,hra1,dq1,dr1,hvq1,hlt1,hqc1,hrc1,hql1,hrl1⟩,rfl⟩:=hp
 replace ha:=ha.up hle1
 replace hb:=hb.up hle1
 refine Wl.gc 7 [] ?_
 refine eY (ι:=Nat×Nat×Nat×Nat) (fun (tn,tm,p,q)=>([(8,.pointer (some ⟨p,0,none⟩)),(9,.pointer (some ⟨q,0,none⟩)),(5,.pointer (some (Addr.mk b4 0 none))),(4,.pointer (some (Addr.mk b3 0 none))),(3,.pointer (some ⟨b2,0,none⟩))],[(60,some p,.cells #[.bool (decide (n1≠n2) && decide (0<tn)),.slice (subA qa1 qc1 0 1) tn qc1] 190),(61,some q,.cells #[.bool (n1 && decide (0<tm)),.slice (subA ra1 rc1 0 1) tm rc1] 190),(3,some b4,.cells #[.bool Bool.false,.slice none 0 0] 190),(2,some b3,.cells #[.bool Bool.false,.slice none 0 0] 190),(1,some b2,.cells #[.bool n2,.slice b (List.length lb) cb] 190),(0,some b1,.cells #[.bool n1,.slice a (List.length la) ca] 190)])) (fun (tn,tm,p,q)=>TrimTo lq1 tn∧TrimTo lr1 tm) ?_ fun ⟨tn,tm,p,q⟩=>fun (hk:TrimTo lq1 tn∧TrimTo lr1 tm)=>?_
 · refine aN [0,1,2,3] [] T.mixed [[0],[1,0],[2],[3,1]] ?_
   refine Gm.u 4 [] rfl (pB T.u4 rfl rfl) ?_
   refine Gm.r [[5],[7],[8,0],[9]] ?_
   refine Gm.o3 6 11 12 ?_ ?_ ?_
   refine Wl.k 4 rfl (gI _ _ _ _ _ ‹_› (by omega) ‹_›) fun v2 G2 Ho2 hle2 hp=>?_
   obtain ⟨tn2,rfl,htr2,rfl,rfl⟩:=hp
   refine aO ?_
   refine Gm.o3 10 11 12 ?_ ?_ ?_
   refine Wl.k 4 rfl (gI _ _ _ _ _ ‹_› (by omega) ‹_›) fun v3 G3 Ho3 hle3 hp=>?_
   obtain ⟨tn3,rfl,htr3,rfl,rfl⟩:=hp
   refine aO ?_
   refine Gm.o2 11 12 ?_ ?_
   refine Wl.alloc 4 rfl T.zero190 fun b5=>?_
   refine Wl.o1 12 ?_
   refine Wl.alloc 5 rfl T.zero190 fun b6=>?_
   refine Wl.o1 13 ?_
   refine aA 1 [4] ?_
   refine Wl.o1 14 ?_
   refine aA 1 [5] ?_
   refine aZ ?_
   rotate_left
   refine Wl.alloc 4 rfl T.zero190 fun b5=>?_
   refine Wl.o1 11 ?_
   refine Wl.alloc 5 rfl T.zero190 fun b6=>?_
   refine Wl.o1 13 ?_
   refine aA 1 [5] ?_
   refine Wl.o1 14 ?_
   refine aA 1 [4] ?_
   refine aZ ?_
   rotate_left
   refine Wl.alloc 4 rfl T.zero190 fun b5=>?_
   refine aO ?_
   refine Gm.o2 10 12 ?_ ?_
   refine Wl.k 5 rfl (gI _ _ _ _ _ ‹_› (by omega) ‹_›) fun v3 G3 Ho3 hle3 hp=>?_
   obtain ⟨tn3,rfl,htr3,rfl,rfl⟩:=hp
   refine Wl.o1 12 ?_
   refine Wl.alloc 5 rfl T.zero190 fun b6=>?_
   refine Wl.o1 13 ?_
   refine aA 1 [4] ?_
   refine Wl.o1 14 ?_
   refine aA 1 [5] ?_
   refine aZ ?_
   rotate_left
   refine Wl.alloc 5 rfl T.zero190 fun b6=>?_
   refine Wl.o1 10 ?_
   refine Wl.k 6 rfl (gI _ _ _ _ _ ‹_› (by omega) ‹_›) fun v3 G3 Ho3 hle3 hp=>?_
   obtain ⟨tn3,rfl,htr3,rfl,rfl⟩:=hp
   refine Wl.o1 13 ?_
   refine aA 1 [4] ?_
   refine Wl.o1 14 ?_
   refine aA 1 [5] ?_
   refine aZ ?_
   rotate_left
   refine Wl.alloc 4 rfl T.zero190 fun b5=>?_
   refine aO ?_
   refine Gm.o2 10 11 ?_ ?_
   refine Wl.k 5 rfl (gI _ _ _ _ _ ‹_› (by omega) ‹_›) fun v3 G3 Ho3 hle3 hp=>?_
   obtain ⟨tn3,rfl,htr3,rfl,rfl⟩:=hp
   refine Wl.o1 11 ?_
   refine Wl.alloc 5 rfl T.zero190 fun b6=>?_
   refine Wl.o1 13 ?_
   refine aA 1 [5] ?_
   refine Wl.o1 14 ?_
   refine aA 1 [4] ?_
   refine aZ ?_
   rotate_left
   refine Wl.alloc 5 rfl T.zero190 fun b6=>?_
   refine Wl.o1 10 ?_
   refine Wl.k 6 rfl (gI _ _ _ _ _ ‹_› (by omega) ‹_›) fun v3 G3 Ho3 hle3 hp=>?_
   obtain ⟨tn3,rfl,htr3,rfl,rfl⟩:=hp
   refine Wl.o1 13 ?_
   refine aA 1 [5] ?_
   refine Wl.o1 14 ?_
   refine aA 1 [4] ?_
   refine aZ ?_
   rotate_left
   refine Wl.alloc 4 rfl T.zero190 fun b5=>?_
   refine aO ?_
   refine Gm.o2 6 12 ?_ ?_
   refine Wl.k 5 rfl (gI _ _ _ _ _ ‹_› (by omega) ‹_›) fun v2 G2 Ho2 hle2 hp=>?_
   obtain ⟨tn2,rfl,htr2,rfl,rfl⟩:=hp
   refine aO ?_
   refine Gm.o2 10 12 ?_ ?_
   refine Wl.k 5 rfl (gI _ _ _ _ _ ‹_› (by omega) ‹_›) fun v3 G3 Ho3 hle3 hp=>?_
   obtain ⟨tn3,rfl,htr3,rfl,rfl⟩:=hp
   refine Wl.o1 12 ?_
   refine Wl.alloc 5 rfl T.zero190 fun b6=>?_
   refine Wl.o1 13 ?_
   refine aA 1 [4] ?_
   refine Wl.o1 14 ?_
   refine aA 1 [5] ?_
   refine aZ ?_
   rotate_left
   refine Wl.alloc 5 rfl T.zero190 fun b6=>?_
   refine Wl.o1 10 ?_
   refine Wl.k 6 rfl (gI _ _ _ _ _ ‹_› (by omega) ‹_›) fun v3 G3 Ho3 hle3 hp=>?_
   obtain ⟨tn3,rfl,htr3,rfl,rfl⟩:=hp
   refine Wl.o1 13 ?_
   refine aA 1 [4] ?_
   refine Wl.o1 14 ?_
   refine aA 1 [5] ?_
   refine aZ ?_
   rotate_left
   refine Wl.alloc 5 rfl T.zero190 fun b6=>?_
   refine Wl.o1 6 ?_
   refine Wl.k 6 rfl (gI _ _ _ _ _ ‹_› (by omega) ‹_›) fun v2 G2 Ho2 hle2 hp=>?_
   obtain ⟨tn2,rfl,htr2,rfl,rfl⟩:=hp
   refine Wl.o1 10 ?_
   refine Wl.k 6 rfl (gI _ _ _ _ _ ‹_› (by omega) ‹_›) fun v3 G3 Ho3 hle3 hp=>?_
   obtain ⟨tn3,rfl,htr3,rfl,rfl⟩:=hp
   refine Wl.o1 13 ?_
   refine aA 1 [4] ?_
   refine Wl.o1 14 ?_
   refine aA 1 [5] ?_
   refine aZ ?_
   rotate_left
   refine Wl.alloc 4 rfl T.zero190 fun b5=>?_
   refine aO ?_
   refine Gm.o2 6 11 ?_ ?_
   refine Wl.k 5 rfl (gI _ _ _ _ _ ‹_› (by omega) ‹_›) fun v2 G2 Ho2 hle2 hp=>?_
   obtain ⟨tn2,rfl,htr2,rfl,rfl⟩:=hp
   refine aO ?_
   refine Gm.o2 10 11 ?_ ?_
   refine Wl.k 5 rfl (gI _ _ _ _ _ ‹_› (by omega) ‹_›) fun v3 G3 Ho3 hle3 hp=>?_
   obtain ⟨tn3,rfl,htr3,rfl,rfl⟩:=hp
   refine Wl.o1 11 ?_
   refine Wl.alloc 5 rfl T.zero190 fun b6=>?_
   refine Wl.o1 13 ?_
   refine aA 1 [5] ?_
   refine Wl.o1 14 ?_
   refine aA 1 [4] ?_
   refine aZ ?_
   rotate_left
   refine Wl.alloc 5 rfl T.zero190 fun b6=>?_
   refine Wl.o1 10 ?_
   refine Wl.k 6 rfl (gI _ _ _ _ _ ‹_› (by omega) ‹_›) fun v3 G3 Ho3 hle3 hp=>?_
   obtain ⟨tn3,rfl,htr3,rfl,rfl⟩:=hp
   refine Wl.o1 13 ?_
   refine aA 1 [5] ?_
   refine Wl.o1 14 ?_
   refine aA 1 [4] ?_
   refine aZ ?_
   rotate_left
   refine Wl.alloc 5 rfl T.zero190 fun b6=>?_
   refine Wl.o1 6 ?_
   refine Wl.k 6 rfl (gI _ _ _ _ _ ‹_› (by omega) ‹_›) fun v2 G2 Ho2 hle2 hp=>?_
   obtain ⟨tn2,rfl,htr2,rfl,rfl⟩:=hp
   refine Wl.o1 10 ?_
   refine Wl.k 6 rfl (gI _ _ _ _ _ ‹_› (by omega) ‹_›) fun v3 G3 Ho3 hle3 hp=>?_
   obtain ⟨tn3,rfl,htr3,rfl,rfl⟩:=hp
   refine Wl.o1 13 ?_
   refine aA 1 [5] ?_
   refine Wl.o1 14 ?_
   refine aA 1 [4] ?_
   refine aZ ?_
   rotate_left
   all_goals first | (refine Ar.retag 4 60 rfl rfl (Ar.retag 5 61 rfl rfl (pG (tn2,tn3,b5,b6) ⟨htr2,htr3⟩ rfl ?_ ?_)) <;> (repeat (first | exact trivial | refine ⟨rfl,?_⟩));done) | (refine Ar.retag 5 60 rfl rfl (Ar.retag 4 61 rfl rfl (pG (tn2,tn3,b6,b5) ⟨htr2,htr3⟩ rfl ?_ ?_)) <;> (repeat (first | exact trivial | refine ⟨rfl,?_⟩));done)
 obtain ⟨htq,htm⟩:=hk
 have hlt:=fO db
 have hxy:=aBI hx.val hy.val hvq1
 have hQ0:=htq.num dq1 hqa1 hqc1 (decide (n1≠n2))
 have hR0:=htm.num dr1 hra1 hrc1 n1
 refine Wc.gc 7 [61] ?_
 refine lE rfl (fun hc1=>?_) fun hc1=>?_
 refine Wc.seq ?_
 refine aN [0,1,2,3,61,60] [(61,4)] T.mixed [[0,61],[1,1]] ?_
 refine Gm.o1 2 ?_
 refine Wl.k 62 rfl (c280 _ _ _ _ _ _ ‹_› ‹_› (by omega) ‹_›) fun v2 G2 Ho2 hle2 hp=>?_
 obtain ⟨nr2,rfl,hnr2,rfl,rfl⟩:=hp
 refine Wl.o1 3 ?_
 refine Wl.k 62 rfl (aFT _ ⟨(n1 && decide (0<tm)),subA ra1 rc1 0 1,tm,rc1⟩ nr2 _ _ hR0 hnr2 (Nat.le_trans htm.1 (by omega)) (Nat.le_trans (Num.len hnr2 (m:=lb.length) (by omega)) (by omega))) fun v3 G3 Ho3 hle3 hp=>?_
 obtain ⟨rs3,rfl,hrs3,rfl⟩:=hp
 replace hqa1:=hqa1.up hle3
 replace hra1:=hra1.up hle3
 replace ha:=ha.up hle3
 replace hb:=hb.up hle3
 replace hQ0:=hQ0.up hle3
 replace hR0:=hR0.up hle3
 replace hnr2:=hnr2.up hle3
 refine Wl.o1 4 ?_
 refine aA 1 [61] ?_
 refine aZ ?_
 refine Ar.next ?_
 refine aN [0,1,2,3,60,61] [(60,5)] T.mixed [[0,60],[1,1]] ?_
 refine Gm.o1 2 ?_
 refine Wl.k0 rfl (c215 _ _ _ _ _ y ‹_› (by omega)) ?_
 refine Wl.o1 3 ?_
 refine Wl.k 62 rfl (aDX _ _ (aFO y)) fun v4 G4 Ho4 hle4 hp=>?_
 obtain ⟨ro4,rfl,hro4,rfl⟩:=hp
 replace hrs3:=hrs3.up hle4
 replace hqa1:=hqa1.up hle4
 replace hra1:=hra1.up hle4
 replace ha:=ha.up hle4
 replace hb:=hb.up hle4
 replace hQ0:=hQ0.up hle4
 replace hR0:=hR0.up hle4
 replace hnr2:=hnr2.up hle4
 refine Wl.o1 4 ?_
 refine Wl.k 62 rfl (aQA _ ⟨(decide (n1≠n2) && decide (0<tn)),subA qa1 qc1 0 1,tn,qc1⟩ ro4 _ _ hQ0 hro4 (Nat.le_trans htq.1 (by omega)) (Nat.le_trans (Num.len hro4 (m:=1) (aMI y)) (by omega))) fun v5 G5 Ho5 hle5 hp=>?_
 obtain ⟨rd5,rfl,hrd5,rfl⟩:=hp
 replace hro4:=hro4.up hle5
 replace hrs3:=hrs3.up hle5
 replace hqa1:=hqa1.up hle5
 replace hra1:=hra1.up hle5
 replace ha:=ha.up hle5
 replace hb:=hb.up hle5
 replace hQ0:=hQ0.up hle5
 replace hR0:=hR0.up hle5
 replace hnr2:=hnr2.up hle5
 refine Wl.o1 5 ?_
 refine aA 1 [60] ?_
 refine aZ ?_
 refine Ar.gc 2 [] ?_
 refine aN [0,1,2,3,61,60] [(3,3),(2,2)] T.mixed [[0,60],[1,61]] ?_
 refine Gm.o1 2 ?_
 refine aA 1 [2] ?_
 refine Wl.o1 3 ?_
 refine aA 1 [3] ?_
 refine aZ ?_
 refine Ar.ga 2 [] ?_
 rotate_left
 refine Wc.gc 3 [] ?_
 refine aN [0,1,2,3,61,60] [(3,3),(2,2)] T.mixed [[0,60],[1,61]] ?_
 refine Gm.o1 2 ?_
 refine aA 1 [2] ?_
 refine Wl.o1 3 ?_
 refine aA 1 [3] ?_
 refine aZ ?_
 refine Ar.ga 2 [] ?_
 rotate_left
 · refine bQ (.inr rfl) (Ho:=[]) rfl (.agg 2 rfl rfl T.agg190) (.agg 3 rfl rfl T.agg190) trivial ?_
   have he:=aMK hxy hy0 (by omega) hc1 htm dr1
   refine ⟨rd5,rs3,rfl,?_,?_,rfl⟩
   · rw [←he.1];exact hrd5
   rw [←he.2];exact hrs3
 refine bQ (.inr rfl) (Ho:=[]) rfl (.agg 2 rfl rfl T.agg190) (.agg 3 rfl rfl T.agg190) trivial ?_
 have he:=aIK hxy hy0 (by omega) hc1 htm dr1
 refine ⟨⟨(decide (n1≠n2) && decide (0<tn)),subA qa1 qc1 0 1,tn,qc1⟩,⟨(n1 && decide (0<tm)),subA ra1 rc1 0 1,tm,rc1⟩,rfl,?_,?_,rfl⟩
 · rw [←he.1];exact hQ0
 rw [←he.2];exact hR0
end
theorem aEB (G:Imm) (x y:IV) (zx zy:Int) (hx:Num G x zx) (hy:Num G y zy) (h1:x.n≤536870912) (h2:y.n≤536870912) (hy0:zy≠0) :
 Does Tryz.prog 268 [.agg (Cells.enc x).toArray,.agg (Cells.enc y).toArray] G [] (fun v G' Ho=>∃ q r:IV,v=.tuple #[.agg (Cells.enc q).toArray,.agg (Cells.enc r).toArray]∧Num G' q (zx / zy)∧Num G' r (zx % zy)∧Ho=[]):=by
 obtain ⟨n1,a,k1,ca⟩:=x
 obtain ⟨n2,b,k2,cb⟩:=y
 obtain ⟨la,hl,hlc,hA,hI⟩:=hx
 obtain ⟨lb,hl',hlc',hA',hI'⟩:=hy
 simp only at hl hlc hA hI hl' hlc' hA' hI' h1 h2
 subst hl hl'
 exact c268 G n1 n2 a b ca cb la lb zx zy hA hA' hI hI' h1 h2 hlc' hy0
theorem oJ (G:Imm) (n:Int) (hn:-9223372036854775808≤n∧n≤9223372036854775807) :
 Does Tryz.prog 120 [.int .i64 n] G [] (fun v G' Ho=>∃ r:IV,v=.agg (Cells.enc r).toArray∧Num G' r n∧Ho=[]):=aDX G n hn
theorem Num.zero_iff {G:Imm} {x:IV} {z:Int} (h:Num G x z):x.n=0↔z=0:=by
 obtain ⟨l,h1,_,_,h4⟩:=h
 rw [←h1];exact h4.zero_iff
theorem aML (n:Nat):aD ((List.replicate (n / 16+1) (default:U32)).set (n / 16) ⟨p2 (n % 16)⟩)=p2 n:=by
 rw [pT _ _ _ (by rw [List.length_replicate];omega)]
 have h0:dg (List.replicate (n / 16+1) (default:U32)) (n / 16)=0:=by
  unfold dg
  rw [Int.toNat_natCast,List.getElem?_replicate]
  split <;> rfl
 rw [h0,show (default:U32)=⟨0⟩ from rfl,jI,aBO,Int.zero_add,Int.sub_zero,←mU,show 16*(n / 16)+n % 16=n by omega]
section
attribute [local irreducible] aD pw bL p2
theorem aBQ (G:Imm) (x y:IV) (zx zy:Int) (hx:Num G x zx) (hy:Num G y zy) (h1:x.n≤536870912) (h2:y.n≤536870912) (hy0:zy≠0) :
 Does Tryz.prog 246 [.agg (Cells.enc x).toArray,.agg (Cells.enc y).toArray] G [] (fun v G' Ho=>∃ q:IV,v=.tuple #[.agg (Cells.enc q).toArray,.bool (decide (zx % zy=0))]∧Num G' q (if zx % zy=0 then zx / zy else 0)∧Ho=[]):=by
 refine D0 Tryz.func246 Tryz.ntmps246 fun w=>?_
 refine Wc.gl 2 [] ?_
 refine Wl.x 0 fun b1=>?_
 refine Wl.x 1 fun b2=>?_
 refine Wl.alloc 2 rfl T.zero190 fun b3=>?_
 refine Wl.gl 7 [0,1] ?_
 refine Wl.k 3 rfl (aEB _ _ _ _ _ hx hy h1 h2 hy0) fun v1 G1 Ho1 hle1 hp=>?_
 obtain ⟨q1,r1,rfl,hq1,hr1,rfl⟩:=hp
 replace hx:=hx.up hle1
 replace hy:=hy.up hle1
 refine aA 3 [] ?_
 refine Wl.alloc 3 rfl T.zero190 fun b4=>?_
 refine Wl.alloc 4 rfl T.zero190 fun b5=>?_
 refine Wl.gc 13 [3,4,4] ?_
 refine Wc.i (fun hc1=>?_) fun hc1=>?_
 refine Wc.gl 2 [] ?_
 refine Wl.p (Qy.build (cs:=[_,_]) T.st190 rfl rfl rfl) ?_
 refine Wl.ga 6 [2] ?_
 rotate_left
 refine Wc.ga 10 [3,2] ?_
 rotate_left
 · refine bQ (.inr rfl) (Ho:=[]) rfl (.agg 2 rfl rfl T.agg190) (.tmp rfl) trivial ?_
   have h0:¬zx % zy=0:=fun e=>by have:=(Num.zero_iff hr1).2 e;omega
   refine ⟨⟨false,none,0,0⟩,by rw [decide_eq_false h0];rfl,?_,rfl⟩
   rw [if_neg h0];exact Num.zero _
 refine bQ (.inr rfl) (Ho:=[]) rfl (.agg 2 rfl rfl T.agg190) (.tmp rfl) trivial ?_
 have h0:zx % zy=0:=(Num.zero_iff hr1).1 (by omega)
 refine ⟨q1,by rw [decide_eq_true h0],?_,rfl⟩
 rw [if_pos h0];exact hq1
theorem c245 (G:Imm) (n:Nat) (hn:n≤16777216) :
 Does Tryz.prog 245 [.int .i64 (n:Int)] G [] (fun v G' Ho=>∃ r:IV,v=.agg (Cells.enc r).toArray∧Num G' r (p2 n)∧Ho=[]):=by
 refine D0 Tryz.func245 Tryz.ntmps245 fun w=>?_
 refine Wc.gl 2 [] ?_
 refine Wl.alloc 0 rfl T.zero190 fun b1=>?_
 refine Wl.gl 5 [] ?_
 refine Wl.p (fN rfl rfl (by omega)) ?_
 refine aA 1 [] ?_
 refine Wl.make (α:=U32) 1 rfl T.sl123 T.el215 rfl rfl (by omega) (by omega) fun b2=>?_
 refine Wl.gc 3 [] ?_
 obtain ⟨N,hN⟩:∃ N,N=n / 16+1:=⟨_,rfl⟩
 have hM:((n:Int) / 16+1).toNat=N:=by omega
 rw [hM]
 have hown:∀ r:List U32,r.length=N→OwnA (some ⟨b2,0,none⟩) N r []:=fun r hr=>.inr ⟨b2,rfl,by rw [hr];rfl,by omega,by simp only [maxLen];omega⟩
 have hrl:(List.replicate N (default:U32)).length=N:=List.length_replicate
 have hor:=hown _ hrl
 refine Wc.re 3 rfl (show _=Value.slice (some ⟨b2,0,none⟩) (List.replicate N (default:U32)).length N by rw [List.length_replicate]) ?_
 refine Wc.gl 4 [] ?_
 refine Wl.p (fN rfl rfl (by omega)) ?_
 refine aA 1 [] ?_
 refine Wl.p (cO rfl rfl (by omega)) ?_
 refine Wl.p (Qy.shl rfl rfl (by omega)) ?_
 refine bR (α:=U32) T.sl123 ?_
 refine bG (z:=_) 1 T.size215 rfl rfl rfl ‹_› (by omega) rfl fun ho1=>?_
 refine Wl.gl 5 [] ?_
 have e3:(List.replicate N (default:U32)).set ((n:Int) / 16).toNat ⟨1*2 ^ min ((n:Int) % 16).toNat IntKind.u32.bits % 2 ^ IntKind.u32.bits⟩=(List.replicate (n / 16+1) (default:U32)).set (n / 16) ⟨p2 (n % 16)⟩:=by
  have h1:1*2 ^ min ((n:Int) % 16).toNat IntKind.u32.bits % 2 ^ IntKind.u32.bits=p2 (n % 16):=aFZ
  rw [h1,hN,show ((n:Int) / 16).toNat=n / 16 by omega]
 rw [e3] at ho1 ⊢
 obtain ⟨r,hr⟩:∃ r,r=(List.replicate (n / 16+1) (default:U32)).set (n / 16) ⟨p2 (n % 16)⟩:=⟨_,rfl⟩
 rw [←hr] at ho1 ⊢
 have hrN:r.length=N:=by rw [hr,List.length_set,List.length_replicate,hN]
 have hv:aD r=p2 n:=by rw [hr];exact aML n
 have hd:Digs r:=by rw [hr];exact kP (lM _) _ ⟨Int.le_of_lt (gJ _),by have:=aFX (show n % 16≤15 by omega);rw [show p2 15=32768 by unfold p2;decide] at this;omega⟩
 have hcap:=ho1.le
 refine Wl.freezeRow 1 rfl ho1 fun G9 hle9 hA=>?_
 refine Wl.re 15 rfl (show _=Value.slice (some ⟨b2,0,none⟩) r.length N by rw [hrN,List.length_replicate]) ?_
 refine Wl.k 2 rfl (gI _ _ _ _ _ ‹_› (by omega) (by first | assumption | omega)) fun v1 G1 Ho1 hle1 hp=>?_
 obtain ⟨tn1,rfl,htr1,rfl,rfl⟩:=hp
 refine Wl.ga 4 [0] ?_
 refine aT (.inr rfl) (Ho:=Hp.only _ []) rfl (.agg 0 rfl rfl T.agg190) (aC _ _) ?_
 refine ⟨⟨false && decide (0<tn1),subA (some ⟨b2,0,none⟩) N 0 1,tn1,N⟩,rfl,?_,rfl⟩
 have e:=htr1.num hd hA hcap false
 rw [if_neg (by decide),hv] at e
 exact e
end
theorem rJ {x y:Int} {k m:Nat} (hx:(x.natAbs:Int)<pw k) (hy:(y.natAbs:Int)<pw m):((x*y).natAbs:Int)<pw (k+m):=by
 rw [Int.natAbs_mul,aDS,Int.natCast_mul]
 have h1:=Int.mul_le_mul_of_nonneg_left (Int.le_of_lt hy) (show (0:Int)≤x.natAbs by omega)
 exact Int.lt_of_le_of_lt h1 (Int.mul_lt_mul_of_pos_right hx (fQ m))
def sS (x:Int) (xs:List Int) (y:Int) (ys:List Int):List Int:=List.zipWith (fun a b=>x*a+y*b) xs ys
theorem aBR {x y:Int} {xs ys:List Int} (h:xs.length=ys.length):(sS x xs y ys).length=xs.length:=by
 unfold sS;rw [List.length_zipWith,h,Nat.min_self]
theorem aIL {x y:Int} {xs ys:List Int} (h:xs.length=ys.length) {i:Nat} (hi:i<xs.length) :
 (sS x xs y ys).take (i+1)=(sS x xs y ys).take i++[x*(xs[((i:Nat):Int).toNat]?.getD 0)+y*(ys[((i:Nat):Int).toNat]?.getD 0)]:=by
 have h1:i<(sS x xs y ys).length:=by rw [aBR h];exact hi
 rw [List.take_succ_eq_append_getElem h1,Int.toNat_natCast,List.getElem?_eq_getElem hi,List.getElem?_eq_getElem (by omega:i<ys.length)]
 have h2:(sS x xs y ys)[i]=x*xs[i]+y*ys[i]:=List.getElem_zipWith
 rw [h2];rfl
theorem aMM {xs ys:List Int} (h:xs.length=ys.length) (he:∀ i:Nat,i<xs.length→xs[i]?.getD 0=ys[i]?.getD 0):xs=ys:=by
 refine List.ext_getElem h fun i h1 h2=>?_
 have:=he i h1
 rw [List.getElem?_eq_getElem h1,List.getElem?_eq_getElem h2] at this
 exact this
theorem oK {x y:Int}:bL x y=0↔x=y:=by
 unfold bL
 split
 · omega
 split <;> omega
theorem zD:(((1:Int)).natAbs:Int)<pw 1:=by decide
theorem aGA:(((-1:Int)).natAbs:Int)<pw 1:=by decide
theorem aQB (k:Nat):(((0:Int)).natAbs:Int)<pw k:=fQ k
section
attribute [local irreducible] aD pw bL p2
theorem c121 (G:Imm) (a b:Option Addr) (ca cb:Nat) (la lb:List IV) (xs ys:List Int) (ha:Arr G a la) (hb:Arr G b lb) (hx:Nums G la xs) (hy:Nums G lb ys) (m:Nat) (hm:m≤1073741824) (bx:Go.Sl.Below m xs) (by':Go.Sl.Below m ys) (h1:la.length≤1099511627776) (h2:lb.length≤1099511627776) :
 Does Tryz.prog 121 [.slice a la.length ca,.slice b lb.length cb] G [] (fun v G' Ho=>v=.bool (decide (xs=ys))∧G'=G∧Ho=[]):=by
 have hxl:=hx.1
 have hyl:=hy.1
 refine D0 Tryz.func121 Tryz.ntmps121 fun w=>?_
 by_cases hl:la.length=lb.length
 · refine Wc.gc 25 [0] ?_
   refine Wc.lp (ι:=Nat) (fun i=>([(5,.int .i64 (i:Int)),(0,.slice a (List.length la) ca),(1,.slice b (List.length lb) cb)],[])) (fun i=>i≤la.length∧∀ j:Nat,j<i→xs[j]?.getD 0=ys[j]?.getD 0) (fun i=>la.length - i) (0) (⟨Nat.zero_le _,fun j hj=>by omega⟩) fun i=>fun hk=>?_
   obtain ⟨hi,he⟩:=hk
   rcases Nat.lt_or_ge i la.length with hia | hia
   · have hxi:=hx.at (m:=(i:Int)) (by omega)
     have hyi:=hy.at (m:=(i:Int)) (by omega)
     have hxn:=Num.len hxi (bx.at _)
     have hyn:=Num.len hyi (by'.at _)
     refine Wc.gc 15 [1] ?_
     refine aN [] [] T.mixed [[0],[1]] ?_
     refine Gm.at (α:=IV) 2 T.sl191 ?_
     refine Gm.le 3 T.agg190 ?_
     refine Gm.r [[4],[5]] ?_
     refine Gm.at (α:=IV) 6 T.sl191 ?_
     refine Gm.le 7 T.agg190 ?_
     refine Gm.o1 8 ?_
     refine Wl.k0 rfl (aFU _ _ _ _ _ ‹_› ‹_› (by omega) (by omega)) ?_
     refine aO ?_
     refine Gm.r [[9]] ?_
     refine Gm.fin ?_
     refine Ar.next ?_
     refine Wc.i (fun hc1=>?_) fun hc1=>?_
     refine Wc.ga 11 [] ?_
     rotate_left
     refine Wc.ga 8 [] ?_
     rotate_left
     · refine Ar.e1 ?_
       have hne:¬xs=ys:=fun e=>by subst e;exact hc1 (oK.2 rfl)
       exact ⟨by rw [decide_eq_false hne],rfl,rfl⟩
     have hc2:=oK.1 (Classical.not_not.1 hc1)
     rw [Int.toNat_natCast] at hc2
     refine aH (i+1) ?_ ?_
     · refine ⟨by omega,fun j hj=>?_⟩
       by_cases hji:j=i
       · subst hji;exact hc2
       exact he j (by omega)
     show la.length - (i+1)<la.length - i
     omega
   refine Wc.ga 21 [0] ?_
   refine Ar.e1 ?_
   have hee:xs=ys:=aMM (by omega) (fun j hj=>he j (by omega))
   exact ⟨by rw [decide_eq_true hee],rfl,rfl⟩
 refine Wc.ga 23 [1] ?_
 refine Ar.e1 ?_
 have hne:¬xs=ys:=fun e=>by subst e;omega
 exact ⟨by rw [decide_eq_false hne],rfl,rfl⟩
def RowOf (G:Imm) (v:Value) (zs:List Int):Prop:=∃ (o:Option Addr) (c:Nat) (l:List IV),v=.slice o l.length c∧Arr G o l∧Nums G l zs∧l.length≤c
theorem c244 (G:Imm) (x y:IV) (zx zy:Int) (a b:Option Addr) (ca cb:Nat) (la lb:List IV) (xs ys:List Int) (hx:Num G x zx) (hy:Num G y zy) (ha:Arr G a la) (hb:Arr G b lb) (hxs:Nums G la xs) (hys:Nums G lb ys) (hl:la.length=lb.length) (k m:Nat) (hk:k+m≤134217728)
 (bx:(zx.natAbs:Int)<pw k) (by':(zy.natAbs:Int)<pw k) (bxs:Go.Sl.Below m xs) (bys:Go.Sl.Below m ys) (h1:la.length≤1048576) :
 Does Tryz.prog 244 [.agg (Cells.enc x).toArray,.slice a la.length ca,.agg (Cells.enc y).toArray,.slice b lb.length cb] G [] (fun v G' Ho=>RowOf G' v (sS zx xs zy ys)∧Ho=[]):=by
 have hxl:=hxs.1
 have hyl:=hys.1
 obtain ⟨K,hK⟩:∃ K,K=k+m:=⟨_,rfl⟩
 have hK9:K≤1073741824:=by omega
 refine D0 Tryz.func244 Tryz.ntmps244 fun w=>?_
 refine bF 9 (Row 190 ([]:List IV) []) ?_
 refine Wc.gl 2 [] ?_
 refine Wl.x 10 fun b1=>?_
 refine Wl.x 11 fun b2=>?_
 refine Wl.gc 15 [] ?_
 refine cS (ι:=Nat×Imm×List IV×(Option Addr×Nat×List Value)) (fun (i,Gx,r,(o,d,j))=>([(10,.int .i64 (i:Int)),(9,.slice o r.length d),(8,.slice none 0 0),(6,.pointer (some ⟨b2,0,none⟩)),(4,.pointer (some ⟨b1,0,none⟩)),(1,.slice a (List.length la) ca),(3,.slice b (List.length lb) cb)],[(9,o.map (·.block),Row 190 r j),(11,some b2,.cells (List.toArray (Cells.enc y)) 190),(10,some b1,.cells (List.toArray (Cells.enc x)) 190)])) (fun (i,Gx,r,(o,d,j))=>Gx) (fun (i,Gx,r,(o,d,j))=>i≤la.length∧G.le Gx∧r.length=i∧Nums Gx r ((sS zx xs zy ys).take i)∧OwnA o d r j) (fun (i,Gx,r,(o,d,j))=>la.length - i) ((0,G,[],(none,0,[]))) (⟨Nat.zero_le _,Imm.le_refl _,rfl,by rw [List.take_zero];exact Nums.nil _,OwnA.nil⟩) rfl ⟨rfl,rfl,rfl,rfl,rfl,rfl,rfl,trivial⟩ ⟨rfl,rfl,rfl,trivial⟩ fun ⟨i,Gx,r,(o,d,j)⟩=>fun hk=>?_
 obtain ⟨hi,hgx,hri,hrs,hob⟩:=hk
 replace hx:=hx.up hgx
 replace hy:=hy.up hgx
 replace ha:=ha.up hgx
 replace hb:=hb.up hgx
 replace hxs:=hxs.up hgx
 replace hys:=hys.up hgx
 rcases Nat.lt_or_ge i la.length with hia | hia
 · have hxi:=hxs.at (m:=(i:Int)) (by omega)
   have hyi:=hys.at (m:=(i:Int)) (by omega)
   have hxn:=Num.len hxi (bxs.at _)
   have hyn:=Num.len hyi (bys.at _)
   have hxn0:=Num.len hx bx
   have hyn0:=Num.len hy by'
   have hp1:=rJ bx (bxs.at (m:=m) ((i:Int).toNat))
   have hp2:=rJ by' (bys.at (m:=m) ((i:Int).toNat))
   rw [←hK] at hp1 hp2
   refine Wc.gc 14 [1] ?_
   refine aN [10,11,9] [(9,15)] T.mixed [[0],[1,10],[2],[3]] ?_
   refine Gm.at (α:=IV) 4 T.sl191 ?_
   refine Gm.le 5 T.agg190 ?_
   refine Gm.r [[7,11],[8],[9]] ?_
   refine Gm.at (α:=IV) 10 T.sl191 ?_
   refine Gm.le 11 T.agg190 ?_
   refine Gm.o1 6 ?_
   refine Wl.k 12 rfl (aFW _ _ _ _ _ ‹_› ‹_› (by omega) (by omega)) fun v1 G1 Ho1 hle1 hp=>?_
   obtain ⟨pm1,rfl,hpm1,rfl⟩:=hp
   replace hrs:=hrs.up hle1
   replace hx:=hx.up hle1
   replace hy:=hy.up hle1
   replace ha:=ha.up hle1
   replace hb:=hb.up hle1
   replace hxs:=hxs.up hle1
   replace hys:=hys.up hle1
   replace hxi:=hxi.up hle1
   replace hyi:=hyi.up hle1
   refine Wl.o1 12 ?_
   refine Wl.k 12 rfl (aFW _ _ _ _ _ ‹_› ‹_› (by omega) (by omega)) fun v2 G2 Ho2 hle2 hp=>?_
   obtain ⟨pm2,rfl,hpm2,rfl⟩:=hp
   replace hpm1:=hpm1.up hle2
   replace hrs:=hrs.up hle2
   replace hx:=hx.up hle2
   replace hy:=hy.up hle2
   replace ha:=ha.up hle2
   replace hb:=hb.up hle2
   replace hxs:=hxs.up hle2
   replace hys:=hys.up hle2
   replace hxi:=hxi.up hle2
   replace hyi:=hyi.up hle2
   refine Wl.o1 13 ?_
   refine Wl.k 12 rfl (aFT _ _ _ _ _ ‹_› ‹_› (Nat.le_trans (Num.len (m:=K) ‹_› ‹_›) hK9) (Nat.le_trans (Num.len (m:=K) ‹_› ‹_›) hK9)) fun v3 G3 Ho3 hle3 hp=>?_
   obtain ⟨ps3,rfl,hps3,rfl⟩:=hp
   replace hpm2:=hpm2.up hle3
   replace hpm1:=hpm1.up hle3
   replace hrs:=hrs.up hle3
   replace hx:=hx.up hle3
   replace hy:=hy.up hle3
   replace ha:=ha.up hle3
   replace hb:=hb.up hle3
   replace hxs:=hxs.up hle3
   replace hys:=hys.up hle3
   replace hxi:=hxi.up hle3
   replace hyi:=hyi.up hle3
   refine Wl.o1 14 ?_
   refine Wl.lit (α:=IV) 12 [(ps3)] rfl T.sl191 T.el190 rfl rfl rfl rfl rfl fun b3=>?_
   refine Wl.o1 15 ?_
   refine Wl.ap (α:=IV) 9 T.sl191 T.el190 (Src.row 12 rfl) fun a1 c1 junk1 ho1=>?_
   refine aO ?_
   refine Gm.r [[16]] ?_
   refine Gm.fin ?_
   refine Ar.ga 7 [] ?_
   refine aH ((i+1,G3,r++[ps3],(a1,c1,junk1))) ?_ ?_
   · exact ⟨by omega,Imm.le_trans hgx (Imm.le_trans hle1 (Imm.le_trans hle2 hle3)),by rw [List.length_append];show r.length+1=i+1;omega,by rw [aIL (by omega) (by omega)];exact hrs.snoc hps3,ho1⟩
   show la.length - (i+1)<la.length - i
   omega
 refine Wc.ga 22 [0] ?_
 have hcap:=hob.le
 rw [List.take_of_length_le (by rw [aBR (by omega)];omega)] at hrs
 refine Ar.freezeRow 9 rfl hob fun G9 hle9 hA=>?_
 refine Ar.e1 ?_
 exact ⟨⟨o,d,r,rfl,hA,hrs.up hle9,hcap⟩,rfl⟩
theorem aEC (G:Imm) (n:Nat):Nums G (List.replicate n (default:IV)) (List.replicate n 0):=by
 refine ⟨by rw [List.length_replicate,List.length_replicate],fun i hi=>?_⟩
 rw [List.length_replicate] at hi
 rw [List.getElem?_replicate,List.getElem?_replicate,if_pos hi,if_pos hi]
 exact Num.zero G
theorem c119 (G:Imm) (n:Nat) (hn:n≤1048576) :
 Does Tryz.prog 119 [.int .i64 (n:Int)] G [] (fun v G' Ho=>RowOf G' v (List.replicate n 0)∧Ho=[]):=by
 refine D0 Tryz.func119 Tryz.ntmps119 fun w=>?_
 refine Wc.gl 8 [] ?_
 refine Wl.make (α:=IV) 0 rfl T.sl191 T.el190 rfl rfl (by omega) (by omega) fun b1=>?_
 refine Wl.ga 4 [] ?_
 have hr:∀ N:Nat,(N:Int).toNat=N:=fun N=>Int.toNat_natCast N
 rw [hr n]
 have hl:(List.replicate n (default:IV)).length=n:=List.length_replicate
 have hob:OwnA (some ⟨b1,0,none⟩) n (List.replicate n (default:IV)) []:=.inr ⟨b1,rfl,by rw [hl];rfl,by omega,by simp only [maxLen];omega⟩
 refine Ar.freezeRow 0 rfl hob fun G9 hle9 hA=>?_
 refine Ar.e1 ?_
 exact ⟨⟨_,n,_,by rw [hl],hA,aEC _ n,by rw [hl];exact Nat.le_refl _⟩,rfl⟩
theorem aED (z:Int) (xs:List Int):sS z xs 0 xs=xs.map (fun a=>z*a):=by
 unfold sS
 induction xs with
 | nil=>rfl
 | cons a l ih=>rw [List.zipWith_cons_cons,ih,List.map_cons,Int.zero_mul,Int.add_zero]
theorem aBS (c:Int) (xs ys:List Int):sS 1 xs c ys=List.zipWith (fun a b=>a+c*b) xs ys:=by
 unfold sS
 congr 1
 funext a b
 rw [Int.one_mul]
theorem c210 (G:Imm) (x:IV) (z:Int) (a:Option Addr) (ca:Nat) (la:List IV) (xs:List Int) (hx:Num G x z) (ha:Arr G a la) (hxs:Nums G la xs) (k m:Nat) (hk:k+m≤134217728)
 (bx:(z.natAbs:Int)<pw k) (bxs:Go.Sl.Below m xs) (h1:la.length≤1048576) :
 Does Tryz.prog 210 [.slice a la.length ca,.agg (Cells.enc x).toArray] G [] (fun v G' Ho=>RowOf G' v (xs.map (fun a=>z*a))∧Ho=[]):=by
 refine D0 Tryz.func210 Tryz.ntmps210 fun w=>?_
 refine Wc.gl 2 [] ?_
 refine Wl.x 0 fun b1=>?_
 refine Wl.gl 7 [0] ?_
 refine Wl.p (Qy.build (cs:=[_,_]) T.st190 rfl rfl rfl) ?_
 refine aA 1 [] ?_
 refine Wl.k 1 rfl (c244 _ x ⟨false,none,0,0⟩ z 0 _ _ _ _ _ _ xs xs hx (Num.zero _) ha ha hxs hxs rfl k m hk bx (aQB k) bxs bxs h1) fun v1 G1 Ho1 hle1 hp=>?_
 obtain ⟨⟨ro1,rc1,rl1,rfl,hrA1,hrs1,hrl1⟩,rfl⟩:=hp
 replace hx:=hx.up hle1
 replace ha:=ha.up hle1
 replace hxs:=hxs.up hle1
 refine Wl.ga 4 [] ?_
 refine Ar.e1 ?_
 exact ⟨⟨ro1,rc1,rl1,rfl,hrA1,by rw [←aED];exact hrs1,hrl1⟩,rfl⟩
theorem c211 (G:Imm) (a b:Option Addr) (ca cb:Nat) (la lb:List IV) (xs ys:List Int) (ha:Arr G a la) (hb:Arr G b lb) (hxs:Nums G la xs) (hys:Nums G lb ys) (hl:la.length=lb.length) (m:Nat) (hm:1+m≤134217728)
 (bxs:Go.Sl.Below m xs) (bys:Go.Sl.Below m ys) (h1:la.length≤1048576) :
 Does Tryz.prog 211 [.slice a la.length ca,.slice b lb.length cb] G [] (fun v G' Ho=>RowOf G' v (List.zipWith (fun a b=>a+1*b) xs ys)∧Ho=[]):=by
 refine D0 Tryz.func211 Tryz.ntmps211 fun w=>?_
 refine Wc.gl 7 [] ?_
 refine Wl.k 0 rfl (oJ _ _ ⟨by decide,by decide⟩) fun v1 G1 Ho1 hle1 hp=>?_
 obtain ⟨ri1,rfl,hri1,rfl⟩:=hp
 replace ha:=ha.up hle1
 replace hb:=hb.up hle1
 replace hxs:=hxs.up hle1
 replace hys:=hys.up hle1
 refine aA 1 [] ?_
 refine Wl.k 0 rfl (oJ _ _ ⟨by decide,by decide⟩) fun v2 G2 Ho2 hle2 hp=>?_
 obtain ⟨ri2,rfl,hri2,rfl⟩:=hp
 replace hri1:=hri1.up hle2
 replace ha:=ha.up hle2
 replace hb:=hb.up hle2
 replace hxs:=hxs.up hle2
 replace hys:=hys.up hle2
 refine aA 1 [] ?_
 refine Wl.k 0 rfl (c244 _ _ _ 1 1 _ _ _ _ la lb xs ys hri1 hri2 ha hb hxs hys hl 1 m hm zD zD bxs bys h1) fun v3 G3 Ho3 hle3 hp=>?_
 obtain ⟨⟨ro3,rc3,rl3,rfl,hrA3,hrs3,hrl3⟩,rfl⟩:=hp
 replace hri2:=hri2.up hle3
 replace hri1:=hri1.up hle3
 replace ha:=ha.up hle3
 replace hb:=hb.up hle3
 replace hxs:=hxs.up hle3
 replace hys:=hys.up hle3
 refine Wl.ga 4 [] ?_
 refine Ar.e1 ?_
 exact ⟨⟨ro3,rc3,rl3,rfl,hrA3,by rw [←aBS];exact hrs3,hrl3⟩,rfl⟩
theorem c212 (G:Imm) (a b:Option Addr) (ca cb:Nat) (la lb:List IV) (xs ys:List Int) (ha:Arr G a la) (hb:Arr G b lb) (hxs:Nums G la xs) (hys:Nums G lb ys) (hl:la.length=lb.length) (m:Nat) (hm:1+m≤134217728)
 (bxs:Go.Sl.Below m xs) (bys:Go.Sl.Below m ys) (h1:la.length≤1048576) :
 Does Tryz.prog 212 [.slice a la.length ca,.slice b lb.length cb] G [] (fun v G' Ho=>RowOf G' v (List.zipWith (fun a b=>a+(-1)*b) xs ys)∧Ho=[]):=by
 refine D0 Tryz.func212 Tryz.ntmps212 fun w=>?_
 refine Wc.gl 7 [] ?_
 refine Wl.k 0 rfl (oJ _ _ ⟨by decide,by decide⟩) fun v1 G1 Ho1 hle1 hp=>?_
 obtain ⟨ri1,rfl,hri1,rfl⟩:=hp
 replace ha:=ha.up hle1
 replace hb:=hb.up hle1
 replace hxs:=hxs.up hle1
 replace hys:=hys.up hle1
 refine aA 1 [] ?_
 refine Wl.k 0 rfl (oJ _ _ ⟨by decide,by decide⟩) fun v2 G2 Ho2 hle2 hp=>?_
 obtain ⟨ri2,rfl,hri2,rfl⟩:=hp
 replace hri1:=hri1.up hle2
 replace ha:=ha.up hle2
 replace hb:=hb.up hle2
 replace hxs:=hxs.up hle2
 replace hys:=hys.up hle2
 refine aA 1 [] ?_
 refine Wl.k 0 rfl (c244 _ _ _ 1 (-1) _ _ _ _ la lb xs ys hri1 hri2 ha hb hxs hys hl 1 m hm zD aGA bxs bys h1) fun v3 G3 Ho3 hle3 hp=>?_
 obtain ⟨⟨ro3,rc3,rl3,rfl,hrA3,hrs3,hrl3⟩,rfl⟩:=hp
 replace hri2:=hri2.up hle3
 replace hri1:=hri1.up hle3
 replace ha:=ha.up hle3
 replace hb:=hb.up hle3
 replace hxs:=hxs.up hle3
 replace hys:=hys.up hle3
 refine Wl.ga 4 [] ?_
 refine Ar.e1 ?_
 exact ⟨⟨ro3,rc3,rl3,rfl,hrA3,by rw [←aBS];exact hrs3,hrl3⟩,rfl⟩
theorem aBT {y:Int} {xs:List Int} {i:Nat} (hi:i<xs.length) :
 (xs.map (· / y)).take (i+1)=(xs.map (· / y)).take i++[xs[((i:Nat):Int).toNat]?.getD 0 / y]:=by
 have h1:i<(xs.map (· / y)).length:=by rw [List.length_map];exact hi
 rw [List.take_succ_eq_append_getElem h1,Int.toNat_natCast,List.getElem?_eq_getElem hi,List.getElem_map];rfl
theorem c214 (G:Imm) (y:IV) (zy:Int) (a:Option Addr) (ca:Nat) (la:List IV) (xs:List Int) (hy:Num G y zy) (ha:Arr G a la) (hxs:Nums G la xs) (m:Nat) (hm:m≤134217728) (hyn0:y.n≤134217728)
 (bxs:Go.Sl.Below m xs) (hy0:zy≠0) (h1:la.length≤1048576) :
 Does Tryz.prog 214 [.slice a la.length ca,.agg (Cells.enc y).toArray] G [] (fun v G' Ho=>∃ rv,v=.tuple #[rv,.bool (decide (dH zy xs))]∧(dH zy xs→RowOf G' rv (xs.map (· / zy)))∧Ho=[]):=by
 have hxl:=hxs.1
 refine D0 Tryz.func214 Tryz.ntmps214 fun w=>?_
 refine bF 9 (Row 190 ([]:List IV) []) ?_
 refine Wc.gl 2 [] ?_
 refine Wl.x 10 fun b1=>?_
 refine Wl.gc 16 [] ?_
 refine cS (ι:=Nat×Imm×List IV×(Option Addr×Nat×List Value)) (fun (i,Gx,r,(o,d,j))=>([(7,.int .i64 (i:Int)),(6,.slice o r.length d),(3,.pointer (some ⟨b1,0,none⟩)),(0,.slice a (List.length la) ca)],[(9,o.map (·.block),Row 190 r j),(10,some b1,.cells (List.toArray (Cells.enc y)) 190)])) (fun (i,Gx,r,(o,d,j))=>Gx) (fun (i,Gx,r,(o,d,j))=>i≤la.length∧G.le Gx∧r.length=i∧Nums Gx r ((xs.map (· / zy)).take i)∧OwnA o d r j∧∀ q:Nat,q<i→xs[q]?.getD 0 % zy=0) (fun (i,Gx,r,(o,d,j))=>la.length - i) ((0,G,[],(none,0,[]))) (⟨Nat.zero_le _,Imm.le_refl _,rfl,by rw [List.take_zero];exact Nums.nil _,OwnA.nil,fun q hq=>by omega⟩) rfl ⟨rfl,rfl,rfl,rfl,trivial⟩ ⟨rfl,rfl,trivial⟩ fun ⟨i,Gx,r,(o,d,j)⟩=>fun hk=>?_
 obtain ⟨hi,hgx,hri,hrs,hob,hq⟩:=hk
 replace hy:=hy.up hgx
 replace ha:=ha.up hgx
 replace hxs:=hxs.up hgx
 rcases Nat.lt_or_ge i la.length with hia | hia
 · have hxi:=hxs.at (m:=(i:Int)) (by omega)
   have hxn:=Num.len hxi (bxs.at _)
   refine Wc.gc 15 [1] ?_
   refine aN [10,9] [] T.mixed [[0],[1]] ?_
   refine Gm.at (α:=IV) 2 T.sl191 ?_
   refine Gm.le 3 T.agg190 ?_
   refine Gm.r [[4,10]] ?_
   refine Gm.o2 5 9 ?_ ?_
   refine Wl.k 11 rfl (aBQ _ _ _ _ zy ‹_› ‹_› (by omega) (by omega) hy0) fun v1 G1 Ho1 hle1 hp=>?_
   obtain ⟨qo1,rfl,hqo1,rfl⟩:=hp
   replace hrs:=hrs.up hle1
   replace hy:=hy.up hle1
   replace ha:=ha.up hle1
   replace hxs:=hxs.up hle1
   replace hxi:=hxi.up hle1
   refine aO ?_
   refine Gm.r [[6],[7],[8]] ?_
   refine Gm.o1 9 ?_
   refine Wl.alloc 11 rfl T.zero190 fun b2=>?_
   refine Wl.o1 10 ?_
   refine aA 1 [11] ?_
   refine aO ?_
   refine Gm.r [[11]] ?_
   refine Gm.fin ?_
   refine Ar.gl 5 [] ?_
   refine Wl.p (aW rfl) ?_
   refine Wl.gc 2 [] ?_
   refine Wc.i (fun hc1=>?_) fun hc1=>?_
   refine Wc.ga 13 [] ?_
   rotate_left
   refine Wc.gl 5 [11] ?_
   refine Wl.lit (α:=IV) 12 [(qo1)] rfl T.sl191 T.el190 rfl rfl rfl rfl rfl fun b3=>?_
   refine Wl.ap (α:=IV) 9 T.sl191 T.el190 (Src.row 12 rfl) fun a1 c1 junk1 ho1=>?_
   refine Wl.ga 9 [] ?_
   rotate_left
   refine Wl.alloc 11 rfl T.zero190 fun b2=>?_
   refine Wl.o1 5 ?_
   refine Wl.k 12 rfl (aBQ _ _ _ _ zy ‹_› ‹_› (by omega) (by omega) hy0) fun v1 G1 Ho1 hle1 hp=>?_
   obtain ⟨qo1,rfl,hqo1,rfl⟩:=hp
   replace hrs:=hrs.up hle1
   replace hy:=hy.up hle1
   replace ha:=ha.up hle1
   replace hxs:=hxs.up hle1
   replace hxi:=hxi.up hle1
   refine aO ?_
   refine Gm.r [[6],[7],[8]] ?_
   refine Gm.o1 10 ?_
   refine aA 1 [11] ?_
   refine aO ?_
   refine Gm.r [[11]] ?_
   refine Gm.fin ?_
   refine Ar.gl 5 [] ?_
   refine Wl.p (aW rfl) ?_
   refine Wl.gc 2 [] ?_
   refine Wc.i (fun hc1=>?_) fun hc1=>?_
   refine Wc.ga 13 [] ?_
   rotate_left
   refine Wc.gl 5 [11] ?_
   refine Wl.lit (α:=IV) 12 [(qo1)] rfl T.sl191 T.el190 rfl rfl rfl rfl rfl fun b3=>?_
   refine Wl.ap (α:=IV) 9 T.sl191 T.el190 (Src.row 12 rfl) fun a1 c1 junk1 ho1=>?_
   refine Wl.ga 9 [] ?_
   rotate_left
   · refine Ar.e2 ?_
     have hn:¬dH zy xs:=fun h=>hc1 (h _ (by omega))
     exact ⟨_,by rw [decide_eq_false hn],fun h=>absurd h hn,rfl⟩
   · have hc2:=Classical.not_not.1 hc1
     rw [if_pos hc2] at hqo1
     refine aH ((i+1,G1,r++[qo1],(a1,c1,junk1))) ?_ ?_
     · refine ⟨by omega,Imm.le_trans hgx hle1,by rw [List.length_append];show r.length+1=i+1;omega,by rw [aBT (by omega)];exact hrs.snoc hqo1,ho1,fun q hq9=>?_⟩
       by_cases hqi:q=i
       · subst hqi;rw [Int.toNat_natCast] at hc2;exact hc2
       exact hq q (by omega)
     show la.length - (i+1)<la.length - i
     omega
   · refine Ar.e2 ?_
     have hn:¬dH zy xs:=fun h=>hc1 (h _ (by omega))
     exact ⟨_,by rw [decide_eq_false hn],fun h=>absurd h hn,rfl⟩
   have hc2:=Classical.not_not.1 hc1
   rw [if_pos hc2] at hqo1
   refine aH ((i+1,G1,r++[qo1],(a1,c1,junk1))) ?_ ?_
   · refine ⟨by omega,Imm.le_trans hgx hle1,by rw [List.length_append];show r.length+1=i+1;omega,by rw [aBT (by omega)];exact hrs.snoc hqo1,ho1,fun q hq9=>?_⟩
     by_cases hqi:q=i
     · subst hqi;rw [Int.toNat_natCast] at hc2;exact hc2
     exact hq q (by omega)
   show la.length - (i+1)<la.length - i
   omega
 refine Wc.ga 23 [0] ?_
 have hcap:=hob.le
 have hall:dH zy xs:=fun q hq9=>hq q (by omega)
 rw [List.take_of_length_le (by rw [List.length_map];omega)] at hrs
 refine Ar.freezeRow 9 rfl hob fun G9 hle9 hA=>?_
 refine Ar.e2 ?_
 exact ⟨_,by rw [decide_eq_true hall],fun _=>⟨o,d,r,rfl,hA,hrs.up hle9,hcap⟩,rfl⟩
end
def RowS (G:Imm) (s:SV) (zs:List Int):Prop:=∃ l:List IV,l.length=s.n∧s.n≤s.c∧Arr G s.a l∧Nums G l zs
theorem RowS.up {G G':Imm} {s:SV} {zs:List Int} (h:RowS G s zs) (hl:G.le G'):RowS G' s zs:=by
 obtain ⟨l,h1,h2,h3,h4⟩:=h
 exact ⟨l,h1,h2,h3.up hl,h4.up hl⟩
theorem RowOf.handle {G:Imm} {v:Value} {zs:List Int} (h:RowOf G v zs):∃ s:SV,v=.slice s.a s.n s.c∧RowS G s zs:=by
 obtain ⟨o,c,l,rfl,h1,h2,h3⟩:=h
 exact ⟨⟨o,l.length,c⟩,rfl,l,rfl,h3,h1,h2⟩
def Grid (G:Imm) (l:List SV) (rs:List (List Int)):Prop:=l.length=rs.length∧∀ i:Nat,i<l.length→RowS G (l[i]?.getD default) (rs[i]?.getD [])
theorem Grid.up {G G':Imm} {l:List SV} {rs:List (List Int)} (h:Grid G l rs) (hl:G.le G'):Grid G' l rs:=⟨h.1,fun i hi=>(h.2 i hi).up hl⟩
theorem Grid.nil (G:Imm):Grid G [] []:=⟨rfl,fun i hi=>by simp at hi⟩
theorem Grid.at {G:Imm} {l:List SV} {rs:List (List Int)} (h:Grid G l rs) {m:Int} (hm:0≤m∧m<l.length):RowS G (l[m.toNat]?.getD default) (rs[m.toNat]?.getD []):=h.2 _ (by omega)
theorem Grid.snoc {G:Imm} {l:List SV} {rs:List (List Int)} (h:Grid G l rs) {s:SV} {zs:List Int} (hx:RowS G s zs):Grid G (l++[s]) (rs++[zs]):=by
 refine ⟨by simp [h.1],fun i hi=>?_⟩
 rw [List.length_append,List.length_singleton] at hi
 by_cases hc:i<l.length
 · rw [List.getElem?_append_left hc,List.getElem?_append_left (by rw [←h.1];exact hc)]
   exact h.2 i hc
 have e:i=l.length:=by omega
 subst e
 rw [List.getElem?_concat_length,h.1,List.getElem?_concat_length]
 exact hx
theorem Grid.set {G:Imm} {l:List SV} {rs:List (List Int)} (h:Grid G l rs) (k:Nat) {s:SV} {zs:List Int} (hx:RowS G s zs):Grid G (l.set k s) (rs.set k zs):=by
 refine ⟨by rw [List.length_set,List.length_set];exact h.1,fun i hi=>?_⟩
 rw [List.length_set] at hi
 have hi2:i<rs.length:=by rw [←h.1];exact hi
 rw [List.getElem?_set,List.getElem?_set]
 by_cases hk:k=i
 · subst hk;rw [if_pos rfl,if_pos rfl,if_pos hi,if_pos hi2];exact hx
 rw [if_neg hk,if_neg hk];exact h.2 i hi
section
attribute [local irreducible] aD pw bL p2
theorem c213 (G:Imm) (i:Sl.Instr) (hc1:i.op=5∨i.op=6→-9223372036854775808≤i.c∧i.c≤9223372036854775807) (hc2:¬(i.op=5∨i.op=6)→0≤i.c∧i.c≤64) :
 Does Tryz.prog 213 [.agg (Cells.enc i).toArray] G [] (fun v G' Ho=>∃ r:IV,v=.agg (Cells.enc r).toArray∧Num G' r (cst i)∧Ho=[]):=by
 refine D0 Tryz.func213 Tryz.ntmps213 fun w=>?_
 by_cases h5:i.op=5
 · have hc1:=hc1 (.inl h5)
   refine Wc.gl 2 [] ?_
   refine Wl.x 0 fun b1=>?_
   refine Wl.alloc 1 rfl T.zero190 fun b2=>?_
   refine Wl.gl 9 [0] ?_
   refine lZ 6 ?_
   refine Wl.gl 11 [1,0] ?_
   refine Wl.k 2 rfl (oJ _ _ hc1) fun v1 G1 Ho1 hle1 hp=>?_
   obtain ⟨ri1,rfl,hri1,rfl⟩:=hp
   refine Wl.ga 5 [1] ?_
   refine aT (.inr rfl) (Ho:=[]) rfl (.agg 1 rfl rfl T.agg190) trivial ?_
   exact ⟨ri1,rfl,by rw [aBN (.inl h5)];exact hri1,rfl⟩
 by_cases h6:i.op=6
 · have hc1:=hc1 (.inr h6)
   refine Wc.gl 2 [] ?_
   refine Wl.x 0 fun b1=>?_
   refine Wl.alloc 1 rfl T.zero190 fun b2=>?_
   refine Wl.gl 9 [0] ?_
   refine dB 6 ?_
   refine Wl.gl 14 [0,1,0] ?_
   refine Wl.k 2 rfl (oJ _ _ hc1) fun v1 G1 Ho1 hle1 hp=>?_
   obtain ⟨ri1,rfl,hri1,rfl⟩:=hp
   refine Wl.ga 5 [1] ?_
   refine aT (.inr rfl) (Ho:=[]) rfl (.agg 1 rfl rfl T.agg190) trivial ?_
   exact ⟨ri1,rfl,by rw [aBN (.inr h6)];exact hri1,rfl⟩
 have hcp:=aLV (i:=i) (by omega)
 obtain ⟨c,hc⟩:∃ c:Nat,i.c=(c:Int):=⟨i.c.toNat,by have:=hc2 (by omega);omega⟩
 have hc9:c≤16777216:=by have:=hc2 (by omega);omega
 rw [hc,Int.toNat_natCast] at hcp
 clear hc1 hc2
 obtain ⟨o,t,a,b,cc⟩:=i
 simp only at hc h5 h6
 subst hc
 refine Wc.gl 2 [] ?_
 refine Wl.x 0 fun b1=>?_
 refine Wl.alloc 1 rfl T.zero190 fun b2=>?_
 refine Wl.gl 9 [0] ?_
 refine dB 6 ?_
 refine Wl.gl 16 [0,0,0] ?_
 refine Wl.k 2 rfl (c245 _ c hc9) fun v1 G1 Ho1 hle1 hp=>?_
 obtain ⟨ri1,rfl,hri1,rfl⟩:=hp
 refine Wl.ga 4 [1] ?_
 refine aT (.inr rfl) (Ho:=[]) rfl (.agg 1 rfl rfl T.agg190) trivial ?_
 exact ⟨ri1,rfl,by rw [hcp];exact hri1,rfl⟩
theorem rK (G:Imm) (x:IV) (z:Int) (s:SV) (xs:List Int) (hx:Num G x z) (hs:RowS G s xs) (m:Nat) (hk:5+m≤134217728)
 (bx:(z.natAbs:Int)<pw 5) (bxs:Go.Sl.Below m xs) (h1:s.n≤1048576) :
 Does Tryz.prog 210 [.slice s.a s.n s.c,.agg (Cells.enc x).toArray] G [] (fun v G' Ho=>∃ s':SV,v=.slice s'.a s'.n s'.c∧RowS G' s' (xs.map (fun a=>z*a))∧Ho=[]):=by
 obtain ⟨sa,sn,sc⟩:=s
 obtain ⟨l,hl,hc,hA,hN⟩:=hs
 simp only at hl hc hA h1
 subst hl
 refine (c210 G x z sa sc l xs hx hA hN 5 m hk bx bxs h1).mono fun v G' Ho _ ⟨h,e⟩=>?_
 obtain ⟨s',e1,e2⟩:=h.handle
 exact ⟨s',e1,e2,e⟩
theorem aQC (G:Imm) (s t:SV) (xs ys:List Int) (hs:RowS G s xs) (ht:RowS G t ys) (hl:xs.length=ys.length) (m:Nat) (hm:1+m≤134217728) (bxs:Go.Sl.Below m xs) (bys:Go.Sl.Below m ys) (h1:s.n≤1048576) :
 Does Tryz.prog 211 [.slice s.a s.n s.c,.slice t.a t.n t.c] G [] (fun v G' Ho=>∃ s':SV,v=.slice s'.a s'.n s'.c∧RowS G' s' (List.zipWith (fun a b=>a+1*b) xs ys)∧Ho=[]):=by
 obtain ⟨sa,sn,sc⟩:=s
 obtain ⟨ta,tn,tc⟩:=t
 obtain ⟨l,hl1,hc,hA,hN⟩:=hs
 obtain ⟨l',hl2,hc',hA',hN'⟩:=ht
 simp only at hl1 hc hA h1 hl2 hc' hA'
 subst hl1 hl2
 have e1:=hN.1
 have e2:=hN'.1
 refine (c211 G sa ta sc tc l l' xs ys hA hA' hN hN' (by omega) m hm bxs bys h1).mono fun v G' Ho _ ⟨h,e⟩=>?_
 obtain ⟨s',e1,e2⟩:=h.handle
 exact ⟨s',e1,e2,e⟩
theorem aQD (G:Imm) (s t:SV) (xs ys:List Int) (hs:RowS G s xs) (ht:RowS G t ys) (hl:xs.length=ys.length) (m:Nat) (hm:1+m≤134217728) (bxs:Go.Sl.Below m xs) (bys:Go.Sl.Below m ys) (h1:s.n≤1048576) :
 Does Tryz.prog 212 [.slice s.a s.n s.c,.slice t.a t.n t.c] G [] (fun v G' Ho=>∃ s':SV,v=.slice s'.a s'.n s'.c∧RowS G' s' (List.zipWith (fun a b=>a+(-1)*b) xs ys)∧Ho=[]):=by
 obtain ⟨sa,sn,sc⟩:=s
 obtain ⟨ta,tn,tc⟩:=t
 obtain ⟨l,hl1,hc,hA,hN⟩:=hs
 obtain ⟨l',hl2,hc',hA',hN'⟩:=ht
 simp only at hl1 hc hA h1 hl2 hc' hA'
 subst hl1 hl2
 have e1:=hN.1
 have e2:=hN'.1
 refine (c212 G sa ta sc tc l l' xs ys hA hA' hN hN' (by omega) m hm bxs bys h1).mono fun v G' Ho _ ⟨h,e⟩=>?_
 obtain ⟨s',e1,e2⟩:=h.handle
 exact ⟨s',e1,e2,e⟩
theorem aBU (G:Imm) (y:IV) (zy:Int) (s:SV) (xs:List Int) (hy:Num G y zy) (hs:RowS G s xs) (m:Nat) (hm:m≤134217728) (by':(zy.natAbs:Int)<pw 5) (bxs:Go.Sl.Below m xs) (hy0:zy≠0) (h1:s.n≤1048576) :
 Does Tryz.prog 214 [.slice s.a s.n s.c,.agg (Cells.enc y).toArray] G [] (fun v G' Ho=>∃ rv,v=.tuple #[rv,.bool (decide (dH zy xs))]∧(dH zy xs→∃ s':SV,rv=.slice s'.a s'.n s'.c∧RowS G' s' (xs.map (· / zy)))∧Ho=[]):=by
 obtain ⟨sa,sn,sc⟩:=s
 obtain ⟨l,hl,hc,hA,hN⟩:=hs
 simp only at hl hc hA h1
 subst hl
 refine (c214 G y zy sa sc l xs hy hA hN m hm (Nat.le_trans (Num.len hy by') (by decide)) bxs hy0 h1).mono fun v G' Ho _ ⟨rv,h,h2,e⟩=>?_
 exact ⟨rv,h,fun ha=>(h2 ha).handle,e⟩
def Even (m N:Nat) (rs:List (List Int)):Prop:=∀ zs∈rs,zs.length=N∧Go.Sl.Below m zs
theorem Even.at {m N:Nat} {rs:List (List Int)} (h:Even m N rs) {k:Int} (hk:0≤k∧k<rs.length):(rs[k.toNat]?.getD []).length=N∧Go.Sl.Below m (rs[k.toNat]?.getD []):=by
 have h1:k.toNat<rs.length:=by omega
 rw [List.getElem?_eq_getElem h1]
 exact h _ (List.getElem_mem h1)
theorem RowS.len {G:Imm} {s:SV} {zs:List Int} (h:RowS G s zs):s.n=zs.length:=by
 obtain ⟨l,h1,_,_,h4⟩:=h
 rw [←h1];exact h4.1
end
section
attribute [local irreducible] aD pw bL p2
theorem aQE:(((-1:Int)).natAbs:Int)<pw 5:=Int.lt_of_lt_of_le aGA (xL (by decide))
def zE (i:Sl.Instr) (rs:List (List Int)) (H0:Hp) (v:Value) (G':Imm) (Ho:Hp):Prop:=
 ∃ rv,v=.tuple #[rv,.bool (decide (doI i rs≠none))]∧(∀ zs,doI i rs=some zs→∃ s:SV,rv=.slice s.a s.n s.c∧RowS G' s zs)∧Ho=H0
theorem jM {i:Sl.Instr} {rs:List (List Int)} {H0:Hp} {s:SV} {G':Imm} {zs:List Int} (h:doI i rs=some zs) (hs:RowS G' s zs):zE i rs H0 (.tuple #[.slice s.a s.n s.c,.bool true]) G' H0:=
 ⟨_,by rw [decide_eq_true (show doI i rs≠none from fun e=>by rw [e] at h;cases h)],fun zs' h'=>by rw [h] at h';cases h';exact ⟨s,rfl,hs⟩,rfl⟩
theorem aBV {i:Sl.Instr} {rs:List (List Int)} {H0:Hp} {rv:Value} {G':Imm} {y:Int} {xs:List Int} (h:doI i rs=if dH y xs then some (xs.map (· / y)) else none)
 (hs:dH y xs→∃ s:SV,rv=.slice s.a s.n s.c∧RowS G' s (xs.map (· / y))):zE i rs H0 (.tuple #[rv,.bool (decide (dH y xs))]) G' H0:=by
 by_cases ha:dH y xs
 · rw [if_pos ha] at h
   obtain ⟨s,e1,e2⟩:=hs ha
   subst e1
   rw [decide_eq_true ha]
   exact jM h e2
 rw [if_neg ha] at h
 refine ⟨rv,by rw [decide_eq_false ha,decide_eq_false (show ¬doI i rs≠none from fun e=>e h)],(fun zs hz=>by rw [h] at hz;cases hz),rfl⟩
theorem c164 (G:Imm) (i:Sl.Instr) (o:Option Addr) (d:Nat) (r:List SV) (j:List Value) (rs:List (List Int)) (m N:Nat) (hob:OwnA o d r j) (hg:Grid G r rs) (he:Even m N rs) (hN:N≤1048576) (hm:5+m≤134217728)
 (hop:1≤i.op∧i.op≤8) (ha:0≤i.a∧i.a<r.length) (hb:i.op=3∨i.op=4→0≤i.b∧i.b<r.length) (hcc:lQ i.op i.c=true) (hr:r.length≤1048576) (hz:i.op≠1→i.op≠2→i.op≠3→i.op≠4→cst i≠0∧((cst i).natAbs:Int)<pw 5)
 (hc1:i.op=5∨i.op=6→-9223372036854775808≤i.c∧i.c≤9223372036854775807) (hc2:¬(i.op=5∨i.op=6)→0≤i.c∧i.c≤64) :
 Does Tryz.prog 164 [.agg (Cells.enc i).toArray,.slice o r.length d] G [(0,o.map (·.block),Row 191 r j)] (fun v G' Ho=>zE i rs [(0,o.map (·.block),Row 191 r j)] v G' Ho):=by
 have hgl:=hg.1
 have hca:=hob.le
 have haR:=hg.at ha
 obtain ⟨haL,haB⟩:=he.at (k:=i.a) (by omega)
 have haN:(r[i.a.toNat]?.getD default).n≤1048576:=by rw [haR.len,haL];exact hN
 have hm1:1+m≤134217728:=by omega
 have hm2:m≤134217728:=by omega
 have hmone:=aQE
 refine D0 Tryz.func164 Tryz.ntmps164 fun w=>?_
 by_cases h2:i.op=2
 · refine Wc.gl 2 [] ?_
   refine Wl.x 1 fun b1=>?_
   refine Wl.gl 9 [1] ?_
   refine bR (α:=SV) T.sl182 ?_
   refine Wl.lo 0 0 T.one191 ?_
   refine Wl.gl 15 [1,1] ?_
   refine Wl.k 2 rfl (oJ _ _ ⟨by decide,by decide⟩) fun v1 G1 Ho1 hle1 hp=>?_
   obtain ⟨ri1,rfl,hri1,rfl⟩:=hp
   replace hg:=hg.up hle1
   replace haR:=haR.up hle1
   refine Wl.k 2 rfl (rK _ _ _ _ _ ‹_› ‹_› m hm ‹_› ‹_› ‹_›) fun v2 G2 Ho2 hle2 hp=>?_
   obtain ⟨rs2,rfl,hrs2,rfl⟩:=hp
   replace hri1:=hri1.up hle2
   replace hg:=hg.up hle2
   replace haR:=haR.up hle2
   refine Wl.ga 6 [] ?_
   refine bQ (.inr rfl) (Ho:=[(0,o.map (·.block),Row 191 r j)]) rfl (.tmp rfl) (.tmp rfl) ⟨rfl,trivial⟩ ?_
   exact jM (by unfold doI;exact if_pos h2) hrs2
 by_cases h34:i.op=3∨i.op=4
 · have hb:=hb h34
   have hbR:=hg.at hb
   obtain ⟨hbL,hbB⟩:=he.at (k:=i.b) (by omega)
   have hll:(rs[i.a.toNat]?.getD []).length=(rs[i.b.toNat]?.getD []).length:=by rw [haL,hbL]
   by_cases h3:i.op=3
   · refine Wc.gl 2 [] ?_
     refine Wl.x 1 fun b1=>?_
     refine Wl.gl 9 [1] ?_
     refine bR (α:=SV) T.sl182 ?_
     refine Wl.lo 0 0 T.one191 ?_
     refine Wl.gl 29 [1,0,1,1,1] ?_
     refine bR (α:=SV) T.sl182 ?_
     refine Wl.lo 0 0 T.one191 ?_
     refine Wl.k 2 rfl (aQC _ _ _ _ _ ‹_› hbR hll m hm1 ‹_› hbB ‹_›) fun v1 G1 Ho1 hle1 hp=>?_
     obtain ⟨rs1,rfl,hrs1,rfl⟩:=hp
     replace hg:=hg.up hle1
     replace haR:=haR.up hle1
     replace hbR:=hbR.up hle1
     refine Wl.ga 6 [] ?_
     refine bQ (.inr rfl) (Ho:=[(0,o.map (·.block),Row 191 r j)]) rfl (.tmp rfl) (.tmp rfl) ⟨rfl,trivial⟩ ?_
     exact jM (by unfold doI;exact (if_neg h2).trans (if_pos h3)) hrs1
   have h4:i.op=4:=by omega
   refine Wc.gl 2 [] ?_
   refine Wl.x 1 fun b1=>?_
   refine Wl.gl 9 [1] ?_
   refine bR (α:=SV) T.sl182 ?_
   refine Wl.lo 0 0 T.one191 ?_
   refine Wl.gl 40 [1,0,1,0,1,1,1] ?_
   refine bR (α:=SV) T.sl182 ?_
   refine Wl.lo 0 0 T.one191 ?_
   refine Wl.k 2 rfl (aQD _ _ _ _ _ ‹_› hbR hll m hm1 ‹_› hbB ‹_›) fun v1 G1 Ho1 hle1 hp=>?_
   obtain ⟨rs1,rfl,hrs1,rfl⟩:=hp
   replace hg:=hg.up hle1
   replace haR:=haR.up hle1
   replace hbR:=hbR.up hle1
   refine Wl.ga 6 [] ?_
   refine bQ (.inr rfl) (Ho:=[(0,o.map (·.block),Row 191 r j)]) rfl (.tmp rfl) (.tmp rfl) ⟨rfl,trivial⟩ ?_
   exact jM (by unfold doI;exact (if_neg h2).trans ((if_neg h3).trans (if_pos h4))) hrs1
 by_cases h1:i.op=1
 · refine Wc.gl 2 [] ?_
   refine Wl.x 1 fun b1=>?_
   refine Wl.gl 9 [1] ?_
   refine bR (α:=SV) T.sl182 ?_
   refine Wl.lo 0 0 T.one191 ?_
   refine Wl.gl 43 [1,0,1,0,1,0,1] ?_
   refine dB 41 ?_
   refine Wl.gl 19 [1,0,1] ?_
   refine dB 53 ?_
   refine Wl.ga 20 [1,0] ?_
   refine bQ (.inr rfl) (Ho:=[(0,o.map (·.block),Row 191 r j)]) rfl (.tmp rfl) (.tmp rfl) ⟨rfl,trivial⟩ ?_
   exact jM (by unfold doI;exact (if_neg h2).trans ((if_neg (fun e=>h34 (.inl e))).trans ((if_neg (fun e=>h34 (.inr e))).trans ((if_neg (by omega)).trans (if_neg (by omega)))))) haR
 obtain ⟨hy0,hyb⟩:=hz h1 h2 (by omega) (by omega)
 by_cases h5:i.op=5
 · refine Wc.gl 2 [] ?_
   refine Wl.x 1 fun b1=>?_
   refine Wl.gl 9 [1] ?_
   refine bR (α:=SV) T.sl182 ?_
   refine Wl.lo 0 0 T.one191 ?_
   refine Wl.gl 43 [1,0,1,0,1,0,1] ?_
   refine lZ 41 ?_
   refine Wl.gl 11 [1,1] ?_
   refine Wl.k 2 rfl (c213 _ i hc1 hc2) fun v1 G1 Ho1 hle1 hp=>?_
   obtain ⟨ri1,rfl,hri1,rfl⟩:=hp
   replace hg:=hg.up hle1
   replace haR:=haR.up hle1
   refine Wl.k 2 rfl (rK _ _ _ _ _ ‹_› ‹_› m hm ‹_› ‹_› ‹_›) fun v2 G2 Ho2 hle2 hp=>?_
   obtain ⟨rs2,rfl,hrs2,rfl⟩:=hp
   replace hri1:=hri1.up hle2
   replace hg:=hg.up hle2
   replace haR:=haR.up hle2
   refine Wl.ga 6 [] ?_
   refine bQ (.inr rfl) (Ho:=[(0,o.map (·.block),Row 191 r j)]) rfl (.tmp rfl) (.tmp rfl) ⟨rfl,trivial⟩ ?_
   exact jM (by unfold doI;exact (if_neg h2).trans ((if_neg (fun e=>h34 (.inl e))).trans ((if_neg (fun e=>h34 (.inr e))).trans (if_pos (.inl h5))))) hrs2
 by_cases h7:i.op=7
 · refine Wc.gl 2 [] ?_
   refine Wl.x 1 fun b1=>?_
   refine Wl.gl 9 [1] ?_
   refine bR (α:=SV) T.sl182 ?_
   refine Wl.lo 0 0 T.one191 ?_
   refine Wl.gl 43 [1,0,1,0,1,0,1] ?_
   refine dB 41 ?_
   refine Wl.gl 14 [1,1,1] ?_
   refine Wl.k 2 rfl (c213 _ i hc1 hc2) fun v1 G1 Ho1 hle1 hp=>?_
   obtain ⟨ri1,rfl,hri1,rfl⟩:=hp
   replace hg:=hg.up hle1
   replace haR:=haR.up hle1
   refine Wl.k 2 rfl (rK _ _ _ _ _ ‹_› ‹_› m hm ‹_› ‹_› ‹_›) fun v2 G2 Ho2 hle2 hp=>?_
   obtain ⟨rs2,rfl,hrs2,rfl⟩:=hp
   replace hri1:=hri1.up hle2
   replace hg:=hg.up hle2
   replace haR:=haR.up hle2
   refine Wl.ga 6 [] ?_
   refine bQ (.inr rfl) (Ho:=[(0,o.map (·.block),Row 191 r j)]) rfl (.tmp rfl) (.tmp rfl) ⟨rfl,trivial⟩ ?_
   exact jM (by unfold doI;exact (if_neg h2).trans ((if_neg (fun e=>h34 (.inl e))).trans ((if_neg (fun e=>h34 (.inr e))).trans (if_pos (.inr h7))))) hrs2
 by_cases h6:i.op=6
 · refine Wc.gl 2 [] ?_
   refine Wl.x 1 fun b1=>?_
   refine Wl.gl 9 [1] ?_
   refine bR (α:=SV) T.sl182 ?_
   refine Wl.lo 0 0 T.one191 ?_
   refine Wl.gl 43 [1,0,1,0,1,0,1] ?_
   refine dB 41 ?_
   refine Wl.gl 19 [1,0,1] ?_
   refine lZ 53 ?_
   refine Wl.gl 11 [1,1] ?_
   refine Wl.k 2 rfl (c213 _ i hc1 hc2) fun v1 G1 Ho1 hle1 hp=>?_
   obtain ⟨ri1,rfl,hri1,rfl⟩:=hp
   replace hg:=hg.up hle1
   replace haR:=haR.up hle1
   refine Wl.k 2 rfl (aBU _ _ _ _ _ ‹_› ‹_› m hm2 ‹_› ‹_› hy0 ‹_›) fun v2 G2 Ho2 hle2 hp=>?_
   obtain ⟨rv2,rfl,hrv2,rfl⟩:=hp
   replace hri1:=hri1.up hle2
   replace hg:=hg.up hle2
   replace haR:=haR.up hle2
   refine Wl.ga 8 [] ?_
   refine bQ (.inr rfl) (Ho:=[(0,o.map (·.block),Row 191 r j)]) rfl (.tmp rfl) (.tmp rfl) ⟨rfl,trivial⟩ ?_
   exact aBV (by unfold doI;exact (if_neg h2).trans ((if_neg (fun e=>h34 (.inl e))).trans ((if_neg (fun e=>h34 (.inr e))).trans ((if_neg (by omega)).trans (if_pos (.inl h6)))))) hrv2
 have h8:i.op=8:=by omega
 refine Wc.gl 2 [] ?_
 refine Wl.x 1 fun b1=>?_
 refine Wl.gl 9 [1] ?_
 refine bR (α:=SV) T.sl182 ?_
 refine Wl.lo 0 0 T.one191 ?_
 refine Wl.gl 43 [1,0,1,0,1,0,1] ?_
 refine dB 41 ?_
 refine Wl.gl 19 [1,0,1] ?_
 refine dB 53 ?_
 refine Wl.gl 14 [1,1,1] ?_
 refine Wl.k 2 rfl (c213 _ i hc1 hc2) fun v1 G1 Ho1 hle1 hp=>?_
 obtain ⟨ri1,rfl,hri1,rfl⟩:=hp
 replace hg:=hg.up hle1
 replace haR:=haR.up hle1
 refine Wl.k 2 rfl (aBU _ _ _ _ _ ‹_› ‹_› m hm2 ‹_› ‹_› hy0 ‹_›) fun v2 G2 Ho2 hle2 hp=>?_
 obtain ⟨rv2,rfl,hrv2,rfl⟩:=hp
 replace hri1:=hri1.up hle2
 replace hg:=hg.up hle2
 replace haR:=haR.up hle2
 refine Wl.ga 8 [] ?_
 refine bQ (.inr rfl) (Ho:=[(0,o.map (·.block),Row 191 r j)]) rfl (.tmp rfl) (.tmp rfl) ⟨rfl,trivial⟩ ?_
 exact aBV (by unfold doI;exact (if_neg h2).trans ((if_neg (fun e=>h34 (.inl e))).trans ((if_neg (fun e=>h34 (.inr e))).trans ((if_neg (by omega)).trans (if_pos (.inr h8)))))) hrv2
end
theorem rL {m k:Nat} {xs:List Int} {f:Int→Int} (h:∀ x:Int,(x.natAbs:Int)<pw m→((f x).natAbs:Int)<pw k) (hx:Go.Sl.Below m xs):Go.Sl.Below k (xs.map f):=fun z hz=>by
 obtain ⟨x,h1,rfl⟩:=List.mem_map.1 hz
 exact h x (hx x h1)
theorem xS {m k:Nat} {xs ys:List Int} {f:Int→Int→Int} (h:∀ x y:Int,(x.natAbs:Int)<pw m→(y.natAbs:Int)<pw m→((f x y).natAbs:Int)<pw k) (hx:Go.Sl.Below m xs) (hy:Go.Sl.Below m ys):Go.Sl.Below k (List.zipWith f xs ys):=fun z hz=>by
 rw [List.mem_iff_getElem] at hz
 obtain ⟨n,hn,rfl⟩:=hz
 rw [List.getElem_zipWith]
 exact h _ _ (hx _ (List.getElem_mem _)) (hy _ (List.getElem_mem _))
theorem aQF (m:Nat):65536*pw m≤pw (5+m):=by
 rw [←gF];exact xL (by omega)
theorem aBW {i:Sl.Instr} {rs:List (List Int)} {m N:Nat} {x:List Int} (he:Even m N rs) (ha:0≤i.a∧i.a<rs.length) (hb:i.op=3∨i.op=4→0≤i.b∧i.b<rs.length)
 (hz:i.op=5∨i.op=7→((cst i).natAbs:Int)<pw 5) (h:doI i rs=some x):x.length=N∧Go.Sl.Below (5+m) x:=by
 obtain ⟨haL,haB⟩:=he.at ha
 have h5:=aQF m
 have hp:=fQ m
 unfold doI at h
 simp only at h
 split at h
 · cases h
   exact ⟨by rw [List.length_map];exact haL,rL (fun x hx=>by omega) haB⟩
 split at h
 · rename_i h3
   obtain ⟨hbL,hbB⟩:=he.at (hb (.inl h3))
   cases h
   exact ⟨by rw [List.length_zipWith,haL,hbL,Nat.min_self],xS (fun x y hx hy=>by omega) haB hbB⟩
 split at h
 · rename_i h4
   obtain ⟨hbL,hbB⟩:=he.at (hb (.inr h4))
   cases h
   exact ⟨by rw [List.length_zipWith,haL,hbL,Nat.min_self],xS (fun x y hx hy=>by omega) haB hbB⟩
 split at h
 · rename_i h57
   cases h
   exact ⟨by rw [List.length_map];exact haL,rL (fun x hx=>rJ (hz h57) hx) haB⟩
 split at h
 · split at h
   · cases h
     refine ⟨by rw [List.length_map];exact haL,rL (fun x hx=>?_) haB⟩
     have h1:(x / cst i).natAbs≤x.natAbs:=Int.natAbs_ediv_le_natAbs _ _
     omega
   cases h
 cases h
 exact ⟨haL,haB.mono (by omega)⟩
theorem uO {p:PV} {gs:List (List Int)} {m N:Nat} (hg:Even m N gs) (h0:0<gs.length):Even m N (fY p gs):=fun zs hz=>by
 unfold fY at hz
 obtain ⟨k,hk,rfl⟩:=List.mem_map.1 hz
 have hN:=(hg.at (k:=0) (by omega)).1
 split
 · exact hg.at (k:=(k:Int)) (by omega)
 refine ⟨by rw [List.length_replicate];exact hN,fun z hz=>?_⟩
 rw [List.eq_of_mem_replicate hz];exact fQ m
theorem aBX {m N:Nat} {rs:List (List Int)} {x:List Int} (h:Even m N rs) (hx:x.length=N∧Go.Sl.Below m x) (k:Nat):Even m N (rs.set k x):=fun zs hz=>by
 rcases List.mem_or_eq_of_mem_set hz with h1 | h1
 · exact h zs h1
 rw [h1];exact hx
theorem Even.mono {m k N:Nat} {rs:List (List Int)} (h:Even m N rs) (hk:m≤k):Even k N rs:=fun zs hz=>⟨(h zs hz).1,(h zs hz).2.mono hk⟩
theorem aBY {G:Imm} {r:List SV} {rs:List (List Int)} {k:Nat} {s:SV} (h:∀ q:Nat,q<k→RowS G (r[q]?.getD default) (rs[q]?.getD [])) (hk:k<r.length) (hs:RowS G s (rs[k]?.getD [])):∀ q:Nat,q<k+1→RowS G ((r.set k s)[q]?.getD default) (rs[q]?.getD []):=fun q hq=>by
 rw [List.getElem?_set]
 by_cases he:k=q
 · subst he;rw [if_pos rfl,if_pos hk];exact hs
 rw [if_neg he];exact h q (by omega)
theorem aGB {G G':Imm} {r:List SV} {rs:List (List Int)} {k:Nat} (h:∀ q:Nat,q<k→RowS G (r[q]?.getD default) (rs[q]?.getD [])) (hl:G.le G'):∀ q:Nat,q<k→RowS G' (r[q]?.getD default) (rs[q]?.getD []):=fun q hq=>(h q hq).up hl
theorem aIM {p:PV} {rs:List (List Int)} {q:Nat} (hq:q<p.outs.length) :
 (dY p rs).take (q+1)=(dY p rs).take q++[rs[(p.outs[((q:Nat):Int).toNat]?.getD default).toNat]?.getD []]:=by
 have h1:q<(dY p rs).length:=by unfold dY;rw [List.length_map];exact hq
 have h2:(dY p rs)[q]=rs[(p.outs[q]).toNat]?.getD []:=List.getElem_map _
 rw [List.take_succ_eq_append_getElem h1,h2,Int.toNat_natCast,List.getElem?_eq_getElem hq];rfl
section
attribute [local irreducible] aD pw bL p2
theorem c114 (G:Imm) (p:PV) (ac ao ga:Option Addr) (cc co gc:Nat) (gl:List SV) (gs:List (List Int)) (N:Nat) (hc:Arr G ac p.code) (ho:Arr G ao p.outs) (hga:Arr G ga gl) (hgg:Grid G gl gs) (hev:Even 4 N gs) (hN:N≤1048576) (hR:aP p=true) (hgi:(gl.length:Int)=p.ins) (hcl:p.code.length≤16384) :
 Does Tryz.prog 114 [.agg #[.int .i64 p.ins,.int .i64 p.regs,.slice ac p.code.length cc,.slice ao p.outs.length co],.slice ga gl.length gc] G [] (fun v G' Ho=>∃ sv bad ov,v=.tuple #[sv,.int .i64 bad,ov]∧(bP p gs=none→0≤bad∧ov=.slice none 0 0)∧
  (∀ os,bP p gs=some os→bad=-1∧∃ (oa:Option Addr) (oc:Nat) (ol:List SV),ov=.slice oa ol.length oc∧Arr G' oa ol∧Grid G' ol os)∧Ho=[]):=by
 obtain ⟨f1,f2,f3,f4,f5,f6,f7,f8⟩:=fX hR
 have hgl:=hgg.1
 obtain ⟨R,hRR⟩:∃ R:Nat,p.regs=(R:Int):=⟨p.regs.toNat,by omega⟩
 refine D0 Tryz.func114 Tryz.ntmps114 fun w=>?_
 have hM:p.regs.toNat=R:=by omega
 have hrl0:=nN p gs
 rw [hM] at hrl0
 have hgl0:0<gl.length:=by omega
 have h0R:=hgg.at (m:=0) (by omega)
 obtain ⟨h0L,h0B⟩:=hev.at (k:=0) (by omega)
 have h0n:(gl[(0:Int).toNat]?.getD default).n≤1048576:=by rw [h0R.len,h0L];exact hN
 refine Wc.gl 2 [] ?_
 refine Wl.x 0 fun b1=>?_
 refine Wl.gl 9 [0] ?_
 refine Wl.make (α:=SV) 1 rfl T.sl182 T.el191 rfl rfl (by omega) (by omega) fun b2=>?_
 refine Wl.gc 10 [] ?_
 rw [hM]
 have hown:∀ r:List SV,r.length=R→OwnA (some ⟨b2,0,none⟩) R r []:=fun r hr=>.inr ⟨b2,rfl,by rw [hr];rfl,by omega,by simp only [maxLen];omega⟩
 refine Wc.re 7 rfl (show _=Value.slice (some ⟨b2,0,none⟩) (List.replicate R (default:SV)).length R by rw [List.length_replicate]) ?_
 refine Wc.lg (ι:=Nat×Imm×List SV) (fun (k,Gx,r)=>([(8,.int .i64 (k:Int)),(7,.slice (some ⟨b2,0,none⟩) r.length R),(6,.slice none 0 0),(5,.int .i64 0),(4,.slice none 0 0),(2,.pointer (some ⟨b1,0,none⟩)),(1,.slice ga (List.length gl) gc)],[(1,some b2,Row 191 r []),(0,some b1,.cells #[.int .i64 (PV.ins p),.int .i64 (PV.regs p),.slice ac (List.length (PV.code p)) cc,.slice ao (List.length (PV.outs p)) co] 26)])) (fun (k,Gx,r)=>Gx) (fun (k,Gx,r)=>k≤R∧G.le Gx∧r.length=R∧∀ q:Nat,q<k→RowS Gx (r[q]?.getD default) ((fY p gs)[q]?.getD [])) (fun (k,Gx,r)=>R - k) ((0,G,List.replicate R (default:SV))) (⟨Nat.zero_le _,Imm.le_refl _,List.length_replicate,fun q hq=>by omega⟩) fun ⟨k,Gx,r⟩=>fun hk=>?_
 obtain ⟨hk0,hgx,hrR,hrow⟩:=hk
 replace hc:=hc.up hgx
 replace ho:=ho.up hgx
 replace hga:=hga.up hgx
 replace hgg:=hgg.up hgx
 have hor:=hown r hrR
 rcases Nat.lt_or_ge k R with hkR | hkR
 · by_cases hkg:k<gl.length
   · refine Wc.gl 19 [0,1] ?_
     refine Wl.at (α:=SV) T.sl182 ?_
     refine Wl.q rfl (aL T.one191 rfl (Arr.cell ‹_› (by omega) 0 rfl rfl)) ?_
     refine Wl.q rfl (Qy.len T.sl191 rfl) ?_
     refine Wl.k 2 rfl (c119 _ _ ‹_›) fun v1 G1 Ho1 hle1 hp=>?_
     obtain ⟨⟨zo1,zc1,zl1,rfl,hzA1,hzN1,hzl1⟩,rfl⟩:=hp
     replace hc:=hc.up hle1
     replace ho:=ho.up hle1
     replace hga:=hga.up hle1
     replace hgg:=hgg.up hle1
     refine bR (α:=SV) T.sl182 ?_
     refine bG (z:=⟨zo1,zl1.length,zc1⟩) 1 T.size191 rfl rfl rfl ‹_› (by omega) rfl fun ho1=>?_
     refine Wl.gl 16 [1] ?_
     refine Wl.at (α:=SV) T.sl182 ?_
     refine bM 0 T.one191 ?_
     refine bR (α:=SV) T.sl182 ?_
     refine bG (z:=gl[((k:Nat):Int).toNat]?.getD default) 1 T.size191 rfl rfl rfl ‹_› (by rw [List.length_set];omega) rfl fun ho2=>?_
     refine Wl.ga 8 [] ?_
     rw [Int.toNat_natCast,List.set_set]
     refine Ar.re 7 rfl (show _=Value.slice (some ⟨b2,0,none⟩) (r.set k (gl[k]?.getD default)).length R by rw [List.length_set]) ?_
     refine aH ((k+1,G1,r.set k (gl[k]?.getD default))) ?_ ?_
     · refine ⟨by omega,Imm.le_trans hgx hle1,by rw [List.length_set];exact hrR,aBY (aGB hrow hle1) (by omega) ?_⟩
       rw [pV (by omega),if_pos (by omega)]
       exact hgg.2 k hkg
     show R - (k+1)<R - k
     omega
   refine Wc.gl 19 [0,1] ?_
   refine Wl.at (α:=SV) T.sl182 ?_
   refine Wl.q rfl (aL T.one191 rfl (Arr.cell ‹_› (by omega) 0 rfl rfl)) ?_
   refine Wl.q rfl (Qy.len T.sl191 rfl) ?_
   refine Wl.k 2 rfl (c119 _ _ ‹_›) fun v1 G1 Ho1 hle1 hp=>?_
   obtain ⟨⟨zo1,zc1,zl1,rfl,hzA1,hzN1,hzl1⟩,rfl⟩:=hp
   replace hc:=hc.up hle1
   replace ho:=ho.up hle1
   replace hga:=hga.up hle1
   replace hgg:=hgg.up hle1
   refine bR (α:=SV) T.sl182 ?_
   refine bG (z:=⟨zo1,zl1.length,zc1⟩) 1 T.size191 rfl rfl rfl ‹_› (by omega) rfl fun ho1=>?_
   refine Wl.ga 19 [0] ?_
   rw [Int.toNat_natCast]
   refine Ar.re 7 rfl (show _=Value.slice (some ⟨b2,0,none⟩) (r.set k (⟨zo1,zl1.length,zc1⟩:SV)).length R by rw [List.length_set]) ?_
   refine aH ((k+1,G1,r.set k (⟨zo1,zl1.length,zc1⟩:SV))) ?_ ?_
   · refine ⟨by omega,Imm.le_trans hgx hle1,by rw [List.length_set];exact hrR,aBY (aGB hrow hle1) (by omega) ?_⟩
     rw [pV (by omega),if_neg (by omega)]
     refine ⟨zl1,rfl,hzl1,hzA1,?_⟩
     have e:=hzN1
     rw [h0R.len] at e
     exact e
   show R - (k+1)<R - k
   omega
 have hg0:Grid Gx r (fY p gs):=⟨by omega,fun q hq=>hrow q (by omega)⟩
 have he0:Even 4 N (fY p gs):=uO hev (by omega)
 refine Wc.gc 27 [0,0] ?_
 refine bF 3 (Row 191 ([]:List SV) []) ?_
 refine cS (ι:=Nat×Imm×List SV×List (List Int)×List SV×(Option Addr×Nat×List Value)) (fun (i,Gy,r2,rs,st,(o,d,j))=>([(10,.int .i64 (i:Int)),(9,.slice o st.length d),(7,.slice (some ⟨b2,0,none⟩) r2.length R),(2,.pointer (some ⟨b1,0,none⟩))],[(3,o.map (·.block),Row 191 st j),(1,some b2,Row 191 r2 []),(0,some b1,.cells #[.int .i64 (PV.ins p),.int .i64 (PV.regs p),.slice ac (List.length (PV.code p)) cc,.slice ao (List.length (PV.outs p)) co] 26)])) (fun (i,Gy,r2,rs,st,(o,d,j))=>Gy) (fun (i,Gy,r2,rs,st,(o,d,j))=>i≤p.code.length∧Gx.le Gy∧r2.length=R∧Grid Gy r2 rs∧Even (4+5*i) N rs∧iJ p gs i=some rs∧OwnA o d st j∧st.length=i) (fun (i,Gy,r2,rs,st,(o,d,j))=>p.code.length - i) ((0,Gx,r,fY p gs,[],(none,0,[]))) (⟨Nat.zero_le _,Imm.le_refl _,hrR,hg0,he0,rfl,OwnA.nil,rfl⟩) rfl ⟨rfl,rfl,rfl,rfl,trivial⟩ ⟨rfl,rfl,rfl,trivial⟩ fun ⟨i,Gy,r2,rs,st,(o,d,j)⟩=>fun hk=>?_
 obtain ⟨hi0,hgy,hr2,hg2,he2,hrun,hob,hst⟩:=hk
 replace hc:=hc.up hgy
 replace ho:=ho.up hgy
 have hor2:=hown r2 hr2
 have hg2l:=hg2.1
 rcases Nat.lt_or_ge i p.code.length with hic | hic
 · have hmem:(p.code[((i:Nat):Int).toNat]?.getD default)∈p.code:=by
    rw [Int.toNat_natCast,List.getElem?_eq_getElem hic];exact List.getElem_mem hic
   obtain ⟨m1,m2,m3,m4,m5,m6,m7,m8⟩:=rI (f8 _ hmem)
   have m3':0≤(p.code[((i:Nat):Int).toNat]?.getD default).a∧(p.code[((i:Nat):Int).toNat]?.getD default).a<r2.length:=by omega
   have m2':0≤(p.code[((i:Nat):Int).toNat]?.getD default).to∧(p.code[((i:Nat):Int).toNat]?.getD default).to<r2.length:=by omega
   have he9:=Even.at he2 (k:=(p.code[((i:Nat):Int).toNat]?.getD default).a) (by omega)
   obtain ⟨ci,hci⟩:∃ ci,ci=p.code[((i:Nat):Int).toNat]?.getD default:=⟨_,rfl⟩
   refine Wc.gl 20 [0,1,0] ?_
   refine Wl.at (α:=Sl.Instr) T.sl23 ?_
   refine Wl.le T.agg91 ?_
   refine aA 1 [] ?_
   refine Wl.k 1 rfl (c164 _ (p.code[((i:Nat):Int).toNat]?.getD default) (some ⟨b2,0,none⟩) R r2 [] rs (4+5*i) N hor2 hg2 he2 hN (by omega) m1 m3' (fun h=>by have:=m4 h;omega) m5 (by omega) m6 m7 m8) fun v1 G1 Ho1 hle1 hp=>?_
   obtain ⟨rv,rfl,hrv,rfl⟩:=hp
   by_cases hd:doI (p.code[((i:Nat):Int).toNat]?.getD default) rs=none
   · have hd2:¬doI (p.code[((i:Nat):Int).toNat]?.getD default) rs≠none:=fun h=>h hd
     refine Wl.gl 11 [] ?_
     refine Wl.p (aW rfl) ?_
     refine Wl.ga 19 [1] ?_
     refine lJ (.inr rfl) (Ho:=[]) rfl (.tmp rfl) (.tmp rfl) (.tmp rfl) trivial ?_
     have hfn:=uN hrun hd hic
     exact ⟨_,(i:Int),_,rfl,fun _=>⟨Int.natCast_nonneg i,rfl⟩,fun os h=>(by rw [hfn] at h;cases h),rfl⟩
   obtain ⟨zs,hzs⟩:=Option.ne_none_iff_exists'.1 hd
   obtain ⟨s,rfl,hs⟩:=hrv zs hzs
   have hok:doI (p.code[((i:Nat):Int).toNat]?.getD default) rs≠none:=hd
   replace hc:=hc.up hle1
   replace ho:=ho.up hle1
   replace hg2:=hg2.up hle1
   refine Wl.gl 11 [] ?_
   refine Wl.p (aW rfl) ?_
   refine Wl.gc 2 [] ?_
   refine Wc.i (fun hc1=>?_) fun hc1=>?_
   refine Wc.ga 16 [] ?_
   rotate_left
   refine Wc.gl 8 [0] ?_
   refine Wl.at (α:=Sl.Instr) T.sl23 ?_
   refine aA 1 [] ?_
   refine bM 1 T.one3 ?_
   refine aA 1 [] ?_
   refine bR (α:=SV) T.sl182 ?_
   refine bG (z:=_) 1 T.size191 rfl rfl rfl ‹_› (by omega) rfl fun ho1=>?_
   refine Wl.gl 5 [] ?_
   refine Wl.lit (α:=SV) 4 [⟨_,_,_⟩] rfl T.sl182 T.el191 rfl rfl rfl rfl rfl fun b3=>?_
   refine Wl.ap (α:=SV) 3 T.sl182 T.el191 (Src.row 4 rfl) fun a2 c2 junk2 ho2=>?_
   refine Wl.ga 9 [] ?_
   rotate_left
   · exact absurd hok hc1
   refine Ar.re 7 rfl (show _=Value.slice (some ⟨b2,0,none⟩) (r2.set (p.code[((i:Nat):Int).toNat]?.getD default).to.toNat s).length R by rw [List.length_set]) ?_
   refine aH ((i+1,G1,r2.set (p.code[((i:Nat):Int).toNat]?.getD default).to.toNat s,rs.set (p.code[((i:Nat):Int).toNat]?.getD default).to.toNat zs,st++[s],(a2,c2,junk2))) ?_ ?_
   · have hx:=aBW (i:=p.code[((i:Nat):Int).toNat]?.getD default) he2 (by omega) (fun h=>by have:=m4 h;omega) (fun h=>(m6 (by omega) (by omega) (by omega) (by omega)).2) hzs
     refine ⟨by omega,Imm.le_trans hgy hle1,by rw [List.length_set];exact hr2,hg2.set _ hs,?_,oI (x:=[]) hrun hzs,by assumption,by rw [List.length_append];show st.length+1=i+1;omega⟩
     rw [show 4+5*(i+1)=5+(4+5*i) by omega]
     exact aBX (he2.mono (by omega)) hx _
   show p.code.length - (i+1)<p.code.length - i
   omega
 have hie:i=p.code.length:=by omega
 subst hie
 have hfo:bP p gs=some (dY p rs):=by unfold bP;rw [hrun];rfl
 have hol:(dY p rs).length=p.outs.length:=by unfold dY;rw [List.length_map]
 refine Wc.gc 28 [0,0] ?_
 refine bF 4 (Row 191 ([]:List SV) []) ?_
 refine Wc.loop (ι:=Nat×List SV×(Option Addr×Nat×List Value)) (fun (q,ol,(oo,od,oj))=>([(14,.int .i64 (q:Int)),(13,.slice oo ol.length od),(9,.slice o (List.length st) d),(7,.slice (some (Addr.mk b2 0 none)) (List.length r2) R),(2,.pointer (some ⟨b1,0,none⟩))],[(4,oo.map (·.block),Row 191 ol oj),(3,Option.map (fun x=>Go.Addr.block x) o,Row (α:=Go.Sl.SV) 191 (st) (j)),(1,some b2,Row (α:=Go.Sl.SV) 191 (r2) ([])),(0,some b1,.cells #[.int .i64 (PV.ins p),.int .i64 (PV.regs p),.slice ac (List.length (PV.code p)) cc,.slice ao (List.length (PV.outs p)) co] 26)])) (fun (q,ol,(oo,od,oj))=>q≤p.outs.length∧ol.length=q∧Grid Gy ol ((dY p rs).take q)∧OwnA oo od ol oj) (fun (q,ol,(oo,od,oj))=>p.outs.length - q) ((0,[],(none,0,[]))) (⟨Nat.zero_le _,rfl,by rw [List.take_zero];exact Grid.nil _,OwnA.nil⟩) ⟨rfl,rfl,rfl,rfl,rfl,trivial⟩ ⟨rfl,rfl,rfl,rfl,trivial⟩ fun ⟨q,ol,(oo,od,oj)⟩=>fun hk=>?_
 obtain ⟨hq0,hql,hqg,hqo⟩:=hk
 rcases Nat.lt_or_ge q p.outs.length with hqc | hqc
 · have hmem:(p.outs[((q:Nat):Int).toNat]?.getD default)∈p.outs:=by
    rw [Int.toNat_natCast,List.getElem?_eq_getElem hqc];exact List.getElem_mem hqc
   have hrr:=f7 _ hmem
   have hrr2:0≤(p.outs[((q:Nat):Int).toNat]?.getD default)∧(p.outs[((q:Nat):Int).toNat]?.getD default)<r2.length:=by omega
   have hss:=hg2.at hrr2
   refine Wc.gl 21 [0,1,0] ?_
   refine Wl.at (α:=Int) T.sl24 ?_
   refine bM 0 T.one3 ?_
   refine bR (α:=SV) T.sl182 ?_
   refine Wl.lo 1 0 T.one191 ?_
   refine Wl.lit (α:=SV) 5 [⟨_,_,_⟩] rfl T.sl182 T.el191 rfl rfl rfl rfl rfl fun b3=>?_
   refine Wl.ap (α:=SV) 4 T.sl182 T.el191 (Src.row 5 rfl) fun a1 c1 junk1 ho1=>?_
   refine Wl.ga 9 [] ?_
   refine aH ((q+1,ol++[r2[(p.outs[((q:Nat):Int).toNat]?.getD default).toNat]?.getD default],(a1,c1,junk1))) ?_ ?_
   · exact ⟨by omega,by rw [List.length_append];show ol.length+1=q+1;omega,by rw [aIM hqc];exact hqg.snoc hss,by assumption⟩
   show p.outs.length - (q+1)<p.outs.length - q
   omega
 refine Wc.ga 26 [0,0] ?_
 rw [List.take_of_length_le (by omega)] at hqg
 refine Ar.freezeRow 4 rfl hqo fun G9 hle9 hA=>?_
 refine lJ (.inr rfl) (Ho:=[]) rfl (.tmp rfl) (.tmp rfl) (.tmp rfl) trivial ?_
 exact ⟨_,-1,_,rfl,fun h=>(by rw [hfo] at h;cases h),fun os h=>(by rw [hfo] at h;cases h;exact ⟨rfl,oo,od,ol,rfl,hA,hqg.up hle9⟩),rfl⟩
end
def Bigs (G:Imm) (l:List IV) (zs:List Int):Prop:=l.length=zs.length∧∀ i:Nat,i<l.length→Big G (l[i]?.getD default) (zs[i]?.getD 0)
theorem Bigs.up {G G':Imm} {l:List IV} {zs:List Int} (h:Bigs G l zs) (hl:G.le G'):Bigs G' l zs:=⟨h.1,fun i hi=>(h.2 i hi).up hl⟩
theorem Bigs.at {G:Imm} {l:List IV} {zs:List Int} (h:Bigs G l zs) {k:Int} (hk:0≤k∧k<l.length):Big G (l[k.toNat]?.getD default) (zs[k.toNat]?.getD 0):=h.2 _ (by omega)
theorem Bigs.set {G:Imm} {l:List IV} {zs:List Int} (h:Bigs G l zs) (k:Nat) {x:IV} {z:Int} (hx:Big G x z):Bigs G (l.set k x) (zs.set k z):=by
 refine ⟨by rw [List.length_set,List.length_set];exact h.1,fun i hi=>?_⟩
 rw [List.length_set] at hi
 rw [List.getElem?_set,List.getElem?_set]
 have h1:=h.1
 by_cases hk:k=i
 · subst hk
   rw [if_pos rfl,if_pos rfl,if_pos hi,if_pos (by omega)];exact hx
 rw [if_neg hk,if_neg hk];exact h.2 i hi
theorem lT (G:Imm) (n:Nat):Bigs G (List.replicate n (default:IV)) (List.replicate n 0):=by
 refine ⟨by rw [List.length_replicate,List.length_replicate],fun i hi=>?_⟩
 rw [List.length_replicate] at hi
 rw [List.getElem?_replicate,List.getElem?_replicate,if_pos hi,if_pos hi]
 exact Big.zero G
def Below (m:Nat) (zs:List Int):Prop:=∀ z∈zs,(z.natAbs:Int)<pb m
theorem Below.at {m:Nat} {zs:List Int} (h:Below m zs) (k:Nat):((zs[k]?.getD 0).natAbs:Int)<pb m:=by
 rcases Nat.lt_or_ge k zs.length with h1 | h1
 · rw [List.getElem?_eq_getElem h1];exact h _ (List.getElem_mem h1)
 rw [List.getElem?_eq_none h1];exact gG m
theorem aSD:((1:Int).natAbs:Int)<pb 1:=by unfold pb;decide
theorem aSE (n:Nat):p2 n=((2 ^ n:Nat):Int):=rfl
theorem uP {z:Int}:sgZ z=0↔z=0:=by
 unfold sgZ
 split
 · simp [*]
 split <;> omega
theorem aEE {x y:Int} (hy:y≠0):((x % y).natAbs:Int)<y.natAbs:=by
 have e1:=Int.emod_nonneg x hy
 rcases Int.lt_or_gt_of_ne hy with h | h
 · have e2:=Int.emod_lt_of_pos x (show 0 < -y by omega)
   rw [Int.emod_neg] at e2
   omega
 have e2:=Int.emod_lt_of_pos x h
 omega
section
attribute [local irreducible] aB pb bL bK p2
theorem c221 (G:Imm) (n:Nat) (hn:n≤64) :
 Does Tryz.prog 221 [.int .i64 (n:Int)] G [] (fun v G' Ho=>∃ r:IV,v=.agg (Cells.enc r).toArray∧Big G' r (p2 n)∧Ho=[]):=by
 refine D0 Tryz.func221 Tryz.ntmps221 fun w=>?_
 refine Wc.gl 2 [] ?_
 refine Wl.alloc 0 rfl T.zero125 fun b1=>?_
 refine Wl.gl 4 [] ?_
 refine Wl.k 1 rfl (c78 _ _ (by omega)) fun v1 G1 Ho1 hle1 hp=>?_
 obtain ⟨ro1,rfl,hro1,rfl⟩:=hp
 refine aA 1 [] ?_
 refine Wl.re 7 rfl (show _=Value.int .i64 ((32*(n / 32)+n % 32:Nat):Int) by rw [Nat.div_add_mod]) ?_
 refine Wl.k 20 rfl (c247 _ ro1 1 (n / 32) (n % 32) hro1 (Nat.le_trans (Big.len hro1 aSD) (by decide)) (Nat.mod_lt _ (by decide)) (by omega)) fun v9 G9 Ho9 hle9 hp=>?_
 obtain ⟨r9,rfl,hr9,rfl⟩:=hp
 refine aA 3 [] ?_
 refine Wl.alloc 1 rfl T.zero125 fun b2=>?_
 refine Wl.ga 11 [1,1,0] ?_
 refine aT (.inr rfl) (Ho:=Hp.only _ []) rfl (.agg 0 rfl rfl T.agg125) (aC _ _) ?_
 exact ⟨r9,rfl,Big.out hr9 (by rw [Nat.div_add_mod,Int.one_mul,aSE]),rfl⟩
end
def cD (a b:Int):Prop:=-16≤a∧a≤16∧-16≤b∧b≤16
instance (a b:Int):Decidable (cD a b):=inferInstanceAs (Decidable (_∧_))
theorem c128 (G:Imm) (n:Int):Does Tryz.prog 128 [.int .i64 n] G [] (fun v G' Ho=>v=.bool (decide (-16≤n∧n≤16))∧G'=G∧Ho=[]):=by
 refine D0 Tryz.func128 Tryz.ntmps128 fun w=>?_
 refine Wc.gl 10 [] ?_
 apply aM 3 5 8 rfl
 intro hg1
 refine aA 5 [] ?_
 exact Wl.b 3 0
 intro hg1
 refine aA 3 [] ?_
 exact Wl.b 3 0
 refine Wl.ga 4 [] ?_
 refine Ar.e1 ?_
 exact ⟨rfl,rfl,rfl⟩
theorem c264 (G:Imm) (n:Int) (h:-9223372036854775807≤n):Does Tryz.prog 264 [.int .i64 n] G [] (fun v G' Ho=>v=.int .i64 (n.natAbs:Int)∧G'=G∧Ho=[]):=by
 refine D0 Tryz.func264 Tryz.ntmps264 fun w=>?_
 refine Wc.gc 12 [] ?_
 refine Wc.i (fun hc1=>?_) fun hc1=>?_
 refine Wc.gl 3 [] ?_
 refine Wl.p (Qy.neg rfl (by omega)) ?_
 refine Wl.ga 5 [] ?_
 refine Ar.e1 ?_
 rotate_left
 refine Wc.ga 9 [] ?_
 refine Ar.e1 ?_
 rotate_left
 · exact ⟨by congr 1;omega,rfl,rfl⟩
 exact ⟨by congr 1;omega,rfl,rfl⟩
theorem c227 (G:Imm) (a b:Int) (h1:-4611686018427387904≤a∧a≤4611686018427387904) (h2:-4611686018427387904≤b∧b≤4611686018427387904):Does Tryz.prog 227 [.int .i64 a,.int .i64 b] G [] (fun v G' Ho=>v=.int .i64 (Int.gcd a b:Int)∧G'=G∧Ho=[]):=by
 refine D0 Tryz.func227 Tryz.ntmps227 fun w=>?_
 refine Wc.gc 7 [] ?_
 refine Wc.lp (ι:=Int×Int) (fun (x,y)=>([(0,.int .i64 x),(1,.int .i64 y),(4,.int .i64 0)],[])) (fun (x,y)=>Int.gcd x y=Int.gcd a b∧(-4611686018427387904≤x∧x≤4611686018427387904)∧(-4611686018427387904≤y∧y≤4611686018427387904)) (fun (x,y)=>y.natAbs) ((a,b)) (⟨rfl,h1,h2⟩) fun ⟨x,y⟩=>fun hk=>?_
 obtain ⟨hg,hx,hy⟩:=hk
 refine Wc.gc 7 [] ?_
 refine Wc.i (fun hc1=>?_) fun hc1=>?_
 refine Wc.gc 3 [] ?_
 refine aN [] [] T.mixed [[0],[1],[2]] ?_
 refine Gm.u 3 [] rfl (Qy.rem rfl rfl (by omega)) ?_
 refine Gm.r [[4],[5]] ?_
 refine Gm.fin ?_
 refine lF ?_
 rotate_left
 refine Wc.gl 8 [] ?_
 refine Wl.k0 rfl (c264 _ _ (by omega)) ?_
 refine Wl.ga 4 [] ?_
 refine Ar.e1 ?_
 rotate_left
 · have e:=Int.natAbs_tmod x y
   have hyp:0<y.natAbs:=by omega
   have e2:=Nat.mod_lt x.natAbs hyp
   have e3:=Nat.mod_le x.natAbs y.natAbs
   refine aH ((y,x.tmod y)) ?_ ?_
   · refine ⟨?_,hy,by omega⟩
     rw [←hg]
     show Nat.gcd y.natAbs (x.tmod y).natAbs=Nat.gcd x.natAbs y.natAbs
     rw [e,Nat.gcd_comm,←Nat.gcd_rec,Nat.gcd_comm]
   show (x.tmod y).natAbs<y.natAbs
   omega
 refine ⟨?_,rfl,rfl⟩
 rw [←hg]
 have e:y=0:=by omega
 subst e
 rw [Int.gcd_zero_right]
theorem c72 (G:Imm) (a b:Int):Does Tryz.prog 72 [.agg #[.int .i64 a,.int .i64 b]] G [] (fun v G' Ho=>v=.bool (decide (cD a b))∧G'=G∧Ho=[]):=by
 refine D0 Tryz.func72 Tryz.ntmps72 fun w=>?_
 refine Wc.gl 2 [] ?_
 refine Wl.x 0 fun b1=>?_
 refine Wl.gl 7 [0] ?_
 refine Wl.k0 rfl (by apply c128 <;> first | assumption | omega | rfl) ?_
 refine aA 1 [] ?_
 apply aM 4 6 10 rfl
 intro hg1
 refine aA 5 [0] ?_
 refine Wl.k0 rfl (by apply c128 <;> first | assumption | omega | rfl) ?_
 refine aA 1 [] ?_
 exact Wl.b 4 0
 intro hg1
 refine aA 4 [] ?_
 exact Wl.b 4 0
 refine Wl.ga 4 [] ?_
 refine Ar.e1 ?_
 exact ⟨by congr 1;exact decide_eq_decide.mpr (by unfold cD;omega),rfl,rfl⟩
theorem c105 (G:Imm) (a b:Int):Does Tryz.prog 105 [.agg #[.int .i64 a,.int .i64 b]] G [] (fun v G' Ho=>v=.bool (decide (a=0∧b=0))∧G'=G∧Ho=[]):=by
 refine D0 Tryz.func105 Tryz.ntmps105 fun w=>?_
 refine Wc.gl 2 [] ?_
 refine Wl.x 0 fun b1=>?_
 refine Wl.gl 6 [0] ?_
 refine Wl.p (Qy.build (cs:=[_,_]) T.st52 rfl rfl rfl) ?_
 refine Wl.p (sY [_,_] [_,_] T.ai52 rfl rfl rfl rfl) ?_
 refine Wl.ga 4 [] ?_
 refine Ar.e1 ?_
 exact ⟨by congr 1;exact decide_eq_decide.mpr (by simp),rfl,rfl⟩
theorem c69 (G:Imm) (a b:Int):Does Tryz.prog 69 [.agg #[.int .i64 a,.int .i64 b]] G [] (fun v G' Ho=>v=.bool (decide (cD a b))∧G'=G∧Ho=[]):=by
 refine D0 Tryz.func69 Tryz.ntmps69 fun w=>?_
 refine Wc.gl 2 [] ?_
 refine Wl.x 0 fun b1=>?_
 refine Wl.gl 9 [0] ?_
 apply aM 4 6 10 rfl
 intro hg1
 refine aA 7 [0] ?_
 exact Wl.b 4 0
 intro hg1
 refine aA 4 [] ?_
 exact Wl.b 4 0
 refine aA 1 [] ?_
 apply aM 4 11 15 rfl
 intro hg1
 refine aA 7 [0] ?_
 exact Wl.b 4 0
 intro hg1
 refine aA 4 [] ?_
 exact Wl.b 4 0
 refine aA 1 [] ?_
 apply aM 4 16 20 rfl
 intro hg1
 refine aA 7 [0] ?_
 exact Wl.b 4 0
 intro hg1
 refine aA 4 [] ?_
 exact Wl.b 4 0
 refine Wl.ga 4 [] ?_
 refine Ar.e1 ?_
 exact ⟨by congr 1;exact decide_eq_decide.mpr (by unfold cD;omega),rfl,rfl⟩
theorem c70 (G:Imm) (a b:Int):Does Tryz.prog 70 [.agg #[.int .i64 a,.int .i64 b]] G [] (fun v G' Ho=>v=.bool (decide (a=0∧b=0))∧G'=G∧Ho=[]):=by
 refine D0 Tryz.func70 Tryz.ntmps70 fun w=>?_
 refine Wc.gl 2 [] ?_
 refine Wl.x 0 fun b1=>?_
 refine Wl.gl 9 [0] ?_
 apply aM 4 6 10 rfl
 intro hg1
 refine aA 7 [0] ?_
 exact Wl.b 4 0
 intro hg1
 refine aA 4 [] ?_
 exact Wl.b 4 0
 refine Wl.ga 4 [] ?_
 refine Ar.e1 ?_
 exact ⟨rfl,rfl,rfl⟩
def dC (a b:Int):Int:=if b<0∨(b=0∧a<0) then -(Int.gcd a b:Int) else (Int.gcd a b:Int)
def nrm (a b:Int):Int×Int:=if a=0∧b=0 then (a,b) else (a.tdiv (dC a b),b.tdiv (dC a b))
theorem pW (a g:Int):-(a.natAbs:Int)≤a.tdiv g∧a.tdiv g≤a.natAbs:=by
 have h:(a.tdiv g).natAbs=a.natAbs / g.natAbs:=Int.natAbs_tdiv a g
 have h2:=Nat.div_le_self a.natAbs g.natAbs
 omega
theorem c201 (G:Imm) (a b:Int) (h1:-4611686018427387904≤a∧a≤4611686018427387904) (h2:-4611686018427387904≤b∧b≤4611686018427387904):Does Tryz.prog 201 [.agg #[.int .i64 a,.int .i64 b]] G [] (fun v G' Ho=>v=.agg #[.int .i64 (nrm a b).1,.int .i64 (nrm a b).2]∧G'=G∧Ho=[]):=by
 refine D0 Tryz.func201 Tryz.ntmps201 fun w=>?_
 have hga:=Int.gcd_dvd_left a b
 have hgb:=Int.gcd_dvd_right a b
 have hgm:(Int.gcd a b:Int)≤4611686018427387904:=by
  by_cases h:a=0
  · subst h;rw [Int.gcd_zero_left];omega
  have:=Int.le_of_dvd (show 0<(a.natAbs:Int) by omega) (Int.dvd_natAbs.mpr hga);omega
 have q1:=pW a (Int.gcd a b:Int)
 have q2:=pW b (Int.gcd a b:Int)
 have q3:=pW a (-(Int.gcd a b:Int))
 have q4:=pW b (-(Int.gcd a b:Int))
 refine Wc.gl 2 [] ?_
 refine Wl.x 0 fun b1=>?_
 refine Wl.alloc 1 rfl T.zero52 fun b2=>?_
 refine Wl.gl 8 [0,0] ?_
 refine Wl.k0 rfl (c227 _ _ _ (by omega) (by omega)) ?_
 refine Wl.gc 12 [] ?_
 refine Wc.i (fun hc1=>?_) fun hc1=>?_
 refine Wc.ga 9 [0,1] ?_
 refine aT (.inr rfl) (Ho:=Hp.only _ []) rfl (.agg 1 rfl rfl T.agg52) (aC _ _) ?_
 rotate_left
 refine Wc.gc 9 [0] ?_
 refine Wc.i (fun hc2=>?_) fun hc2=>?_
 refine Wc.gl 5 [1] ?_
 refine Wl.p (Qy.neg rfl (by omega)) ?_
 refine Wl.gc 5 [] ?_
 refine aN [0,1] [(1,9)] T.mixed [[0],[1,0],[2]] ?_
 refine Gm.u 3 [] rfl (Qy.quo rfl rfl (by omega) (by omega)) ?_
 refine Gm.r [[4],[5,0],[6]] ?_
 refine Gm.u 7 [] rfl (Qy.quo rfl rfl (by omega) (by omega)) ?_
 refine Gm.u 8 [] rfl (Qy.build (cs:=[_,_]) T.st52 rfl rfl rfl) ?_
 refine Gm.o1 9 ?_
 refine aA 1 [1] ?_
 refine aZ ?_
 refine Ar.ga 2 [] ?_
 refine aT (.inr rfl) (Ho:=Hp.only _ []) rfl (.agg 1 rfl rfl T.agg52) (aC _ _) ?_
 rotate_left
 refine Wc.gl 5 [0] ?_
 apply aM 4 20 24 rfl
 intro hg1
 refine aA 7 [0] ?_
 exact Wl.b 4 0
 intro hg1
 refine aA 4 [] ?_
 exact Wl.b 4 0
 refine Wl.gc 3 [] ?_
 refine Wc.i (fun hc3=>?_) fun hc3=>?_
 refine Wc.gl 2 [] ?_
 refine Wl.p (Qy.neg rfl (by omega)) ?_
 refine Wl.gc 5 [] ?_
 refine aN [0,1] [(1,9)] T.mixed [[0],[1,0],[2]] ?_
 refine Gm.u 3 [] rfl (Qy.quo rfl rfl (by omega) (by omega)) ?_
 refine Gm.r [[4],[5,0],[6]] ?_
 refine Gm.u 7 [] rfl (Qy.quo rfl rfl (by omega) (by omega)) ?_
 refine Gm.u 8 [] rfl (Qy.build (cs:=[_,_]) T.st52 rfl rfl rfl) ?_
 refine Gm.o1 9 ?_
 refine aA 1 [1] ?_
 refine aZ ?_
 refine Ar.ga 2 [] ?_
 refine aT (.inr rfl) (Ho:=Hp.only _ []) rfl (.agg 1 rfl rfl T.agg52) (aC _ _) ?_
 rotate_left
 refine Wc.gc 4 [] ?_
 refine aN [0,1] [(1,9)] T.mixed [[0],[1,0],[2]] ?_
 refine Gm.u 3 [] rfl (Qy.quo rfl rfl (by omega) (by omega)) ?_
 refine Gm.r [[4],[5,0],[6]] ?_
 refine Gm.u 7 [] rfl (fN rfl rfl (by omega)) ?_
 refine Gm.u 8 [] rfl (Qy.build (cs:=[_,_]) T.st52 rfl rfl rfl) ?_
 refine Gm.o1 9 ?_
 refine aA 1 [1] ?_
 refine aZ ?_
 refine Ar.ga 2 [] ?_
 refine aT (.inr rfl) (Ho:=Hp.only _ []) rfl (.agg 1 rfl rfl T.agg52) (aC _ _) ?_
 rotate_left
 · obtain ⟨ea,eb⟩:=Int.gcd_eq_zero_iff.mp (show Int.gcd a b=0 by omega)
   exact ⟨by unfold nrm;rw [if_pos ⟨ea,eb⟩],rfl,rfl⟩
 · have hn:¬(a=0∧b=0):=by omega
   exact ⟨by unfold nrm dC;rw [if_neg hn,if_pos (by omega)],rfl,rfl⟩
 · have hn:¬(a=0∧b=0):=by omega
   exact ⟨by unfold nrm dC;rw [if_neg hn,if_pos (by omega)],rfl,rfl⟩
 have hn:¬(a=0∧b=0):=fun h=>hc1 (by rw [h.1,h.2];rfl)
 exact ⟨by unfold nrm dC;rw [if_neg hn,if_neg (by omega),Int.tdiv_eq_ediv_of_nonneg (a:=b) (by omega)],rfl,rfl⟩
def same (a b c d:Int):Prop:=nrm a b=nrm c d
instance (a b c d:Int):Decidable (same a b c d):=inferInstanceAs (Decidable (_=_))
theorem c154 (G:Imm) (a b c d:Int):Does Tryz.prog 154 [.agg #[.int .i64 a,.int .i64 b],.agg #[.int .i64 c,.int .i64 d]] G [] (fun v G' Ho=>v=.tuple #[.bool (decide (cD a b∧cD c d∧same a b c d)),.int .i64 (if cD a b∧cD c d then 0 else 2)]∧G'=G∧Ho=[]):=by
 refine D0 Tryz.func154 Tryz.ntmps154 fun w=>?_
 refine Wc.gl 2 [] ?_
 refine Wl.x 0 fun b1=>?_
 refine Wl.x 1 fun b2=>?_
 refine Wl.gl 8 [0] ?_
 refine Wl.k0 rfl (by apply c72 <;> first | assumption | omega | rfl) ?_
 refine Wl.p (aW rfl) ?_
 refine aA 1 [] ?_
 apply aG 4 9 13 rfl
 intro hg1
 refine aA 3 [1] ?_
 refine Wl.k0 rfl (by apply c72 <;> first | assumption | omega | rfl) ?_
 refine aA 1 [] ?_
 refine Wl.p (aW rfl) ?_
 refine aA 1 [] ?_
 exact Wl.b 4 0
 intro hg1
 refine aA 4 [] ?_
 exact Wl.b 4 0
 refine Wl.gc 2 [] ?_
 refine Wc.i (fun hc1=>?_) fun hc1=>?_
 refine Wc.ga 8 [] ?_
 refine Ar.e2 ?_
 rotate_left
 refine Wc.gc 3 [] ?_
 refine aN [0,1] [] T.mixed [[0,0],[2,1]] ?_
 refine Gm.o1 1 ?_
 refine Wl.k0 rfl (c201 _ _ _ (by unfold cD at *;omega) (by unfold cD at *;omega)) ?_
 refine Wl.o1 3 ?_
 refine Wl.k0 rfl (c201 _ _ _ (by unfold cD at *;omega) (by unfold cD at *;omega)) ?_
 refine aO ?_
 refine Gm.u 4 [] rfl (sY [_,_] [_,_] T.ai52 rfl rfl rfl rfl) ?_
 refine Gm.r [[5],[6]] ?_
 refine Gm.fin ?_
 refine Ar.ga 2 [] ?_
 refine Ar.e2 ?_
 rotate_left
 · exact ⟨by rw [if_neg (by unfold cD at *;omega),decide_eq_false (fun h=>absurd (And.intro h.1 h.2.1) (by unfold cD at *;omega))],rfl,rfl⟩
 refine ⟨?_,rfl,rfl⟩
 rw [if_pos (by unfold cD at *;omega)]
 congr 4
 exact decide_eq_decide.mpr (by unfold same cD at *;rw [Prod.ext_iff];simp;omega)
theorem aGC {a b c d:Int} (h:cD a b) (k:cD c d):-256≤a*d∧a*d≤256:=by
 unfold cD at *
 have h1:(a*d).natAbs≤16*16:=by rw [Int.natAbs_mul];exact Nat.mul_le_mul (by omega) (by omega)
 omega
def zF (p q:R2):Prop:=cD p.a p.b∧cD q.a q.b∧same p.a p.b q.a q.b
def Twin (l:List R2):Prop:=∃ j,j<l.length∧∃ i,i<j∧zF (l[i]?.getD default) (l[j]?.getD default)
theorem c106 (G:Imm) (a:Option Addr) (c:Nat) (l:List R2) (ha:Arr G a l) (h1:l.length≤1048576) (hc:l.length≤c):Does Tryz.prog 106 [.slice a l.length c] G [] (fun v G' Ho=>∃ (i j:Int) (b:Bool),v=.tuple #[.int .i64 i,.int .i64 j,.bool b]∧(b=true↔Twin l)∧G'=G∧Ho=[]):=by
 refine D0 Tryz.func106 Tryz.ntmps106 fun w=>?_
 refine Wc.gc 16 [] ?_
 refine Wc.lp (ι:=Nat) (fun j=>([(13,.int .i64 (j:Int)),(12,.int .i64 (l.length:Int)),(11,.slice a (List.length l) c),(0,.slice a (List.length l) c)],[])) (fun j=>j≤l.length∧(∀ j',j'<j→∀ i,i<j'→¬zF (l[i]?.getD default) (l[j']?.getD default))) (fun j=>l.length - j) (0) (⟨Nat.zero_le _,fun j' h=>absurd h (by omega)⟩) fun j=>fun hk=>?_
 obtain ⟨hj,hno⟩:=hk
 refine Wc.gc 6 [] ?_
 refine Wc.i (fun hc1=>?_) fun hc1=>?_
 refine Wc.gl 7 [] ?_
 refine Wl.at (α:=R2) T.sl22 ?_
 refine Wl.le T.agg52 ?_
 refine Wl.alloc 0 rfl T.zero52 fun b1=>?_
 refine Wl.gl 8 [0] ?_
 refine Wl.p (pF T.sl22 rfl rfl (by omega)) ?_
 refine Wl.gc 5 [] ?_
 rotate_left
 refine Wc.ga 13 [] ?_
 refine Ar.e3 ?_
 rotate_left
 · have haj:Arr G (subA a c 0 2) (l.take j):=mQ ha j
   have ej:(l.take j).length=j:=by rw [List.length_take];omega
   refine Wc.re 20 rfl (show _=Value.slice (subA a c 0 2) (l.take j).length c by rw [ej];rfl) ?_
   refine Wc.lp (ι:=Nat) (fun i=>([(22,.int .i64 (i:Int)),(0,.slice a l.length c),(11,.slice a l.length c),(12,.int .i64 (l.length:Int)),(20,.slice (Go.Sl.subA a c 0 2) (List.length (List.take j l)) c),(21,.int .i64 (↑(Int.toNat (↑j:Int)):Int)),(5,.int .i64 (↑j:Int)),(6,.pointer (some ⟨b1,0,none⟩)),(13,.int .i64 (↑j:Int))],[(0,some b1,.cells (List.toArray (Cells.enc (Option.getD l[Int.toNat (↑j:Int)]? default))) 52)])) (fun i=>i≤j∧(∀ i',i'<i→¬zF (l[i']?.getD default) (l[j]?.getD default))) (fun i=>j - i) (0) (⟨Nat.zero_le _,fun i' h=>absurd h (by omega)⟩) fun i=>fun hk=>?_
   obtain ⟨hi,hni⟩:=hk
   have eti:i<j→(l.take j)[((i:Nat):Int).toNat]?.getD default=l[i]?.getD default:=fun h=>by rw [List.getElem?_take,if_pos (by omega)];rfl
   have etj:l[((j:Nat):Int).toNat]?.getD default=l[j]?.getD default:=rfl
   refine Wc.gc 6 [] ?_
   refine Wc.i (fun hc2=>?_) fun hc2=>?_
   refine Wc.gl 7 [] ?_
   refine Wl.at (α:=R2) T.sl22 ?_
   refine Wl.le T.agg52 ?_
   refine Wl.alloc 1 rfl T.zero52 fun b2=>?_
   refine Wl.gl 8 [1,1,0] ?_
   refine Wl.k0 rfl (by apply c154 <;> first | assumption | omega | rfl) ?_
   refine Wl.gc 12 [] ?_
   refine Wc.i (fun hc3=>?_) fun hc3=>?_
   refine Wc.ga 19 [] ?_
   refine Ar.e3 ?_
   rotate_left
   refine Wc.ga 7 [] ?_
   rotate_left
   refine Wc.ga 10 [] ?_
   rotate_left
   · rw [eti (by omega)] at hc3
     exact ⟨_,_,true,rfl,⟨fun _=>⟨j,by omega,i,by omega,hc3⟩,fun _=>rfl⟩,rfl,rfl⟩
   · refine Ar.re 22 rfl (show _=Value.int .i64 ((i+1:Nat):Int) from rfl) ?_
     refine aH (i+1) ?_ ?_
     · refine ⟨by omega,fun i' h2=>?_⟩
       rcases Nat.lt_or_ge i' i with h | h
       · exact hni i' h
       have e:i'=i:=by omega
       subst e;intro hq;rw [eti (by omega)] at hc3;exact hc3 hq
     omega
   refine Ar.re 13 rfl (show _=Value.int .i64 ((j+1:Nat):Int) from rfl) ?_
   refine aH (j+1) ?_ ?_
   · refine ⟨by omega,fun j' h1 i h2=>?_⟩
     rcases Nat.lt_or_ge j' j with h | h
     · exact hno j' h i h2
     have e:j'=j:=by omega
     subst e;exact hni i (by omega)
   omega
 refine ⟨0,0,false,rfl,⟨fun h=>absurd h (by decide),fun ⟨j',h1,i',h2,h3⟩=>absurd h3 (hno j' (by omega) i' h2)⟩,rfl,rfl⟩
def okP (p:R2):Prop:=cD p.a p.b∧¬(p.a=0∧p.b=0)
def fC (l:List R2):Prop:=1≤l.length∧l.length≤15∧(∀ i,i<l.length→okP (l[i]?.getD default))∧¬Twin l
theorem c144 (G:Imm) (a:Option Addr) (c:Nat) (l:List R2) (ha:Arr G a l) (h1:l.length≤1048576) (hc:l.length≤c):Does Tryz.prog 144 [.slice a l.length c] G [] (fun v G' Ho=>∃ b:Bool,v=.bool b∧(b=true↔fC l)∧G'=G∧Ho=[]):=by
 refine D0 Tryz.func144 Tryz.ntmps144 fun w=>?_
 refine Wc.gl 12 [] ?_
 apply aG 4 11 15 rfl
 intro hg1
 refine aA 7 [] ?_
 exact Wl.b 4 0
 intro hg1
 refine aA 4 [] ?_
 exact Wl.b 4 0
 refine Wl.gc 2 [] ?_
 refine Wc.i (fun hc1=>?_) fun hc1=>?_
 refine Wc.ga 7 [] ?_
 refine Ar.e1 ?_
 rotate_left
 refine Wc.gc 11 [] ?_
 rotate_left
 · exact ⟨false,rfl,⟨fun h=>absurd h (by decide),fun h=>absurd h.1 (by have:=h.2.1;omega)⟩,rfl,rfl⟩
 refine Wc.lp (ι:=Nat) (fun j=>([(18,.int .i64 (j:Int)),(0,.slice a l.length c),(17,.int .i64 (l.length:Int)),(16,.slice a (List.length l) c)],[])) (fun j=>j≤l.length∧(∀ i,i<j→okP (l[i]?.getD default))) (fun j=>l.length - j) (0) (⟨Nat.zero_le _,fun j' h=>absurd h (by omega)⟩) fun j=>fun hk=>?_
 obtain ⟨hj,hno⟩:=hk
 refine Wc.gc 6 [] ?_
 refine Wc.i (fun hc2=>?_) fun hc2=>?_
 refine Wc.gl 6 [] ?_
 refine Wl.at (α:=R2) T.sl22 ?_
 refine Wl.le T.agg52 ?_
 refine Wl.alloc 0 rfl T.zero52 fun b1=>?_
 refine Wl.gl 6 [0,0] ?_
 refine Wl.k0 rfl (by apply c72 <;> first | assumption | omega | rfl) ?_
 refine Wl.p (aW rfl) ?_
 refine aA 1 [] ?_
 apply aG 3 25 28 rfl
 intro hg1
 refine aA 3 [0] ?_
 refine Wl.k0 rfl (by apply c105 <;> first | assumption | omega | rfl) ?_
 refine aA 1 [] ?_
 exact Wl.b 3 0
 intro hg1
 refine aA 3 [] ?_
 exact Wl.b 3 0
 refine Wl.gc 2 [] ?_
 refine Wc.i (fun hc3=>?_) fun hc3=>?_
 refine Wc.ga 11 [] ?_
 refine Ar.e1 ?_
 rotate_left
 refine Wc.ga 7 [] ?_
 rotate_left
 refine Wc.gl 8 [] ?_
 refine Wl.k 0 rfl (c106 _ _ _ _ ‹_› (by omega) (by first | assumption | omega)) fun v1 G1 Ho1 hle1 hp=>?_
 obtain ⟨ti1,tj1,tb1,rfl,htb1,rfl,rfl⟩:=hp
 refine Wl.ga 17 [] ?_
 refine Ar.e1 ?_
 rotate_left
 · exact ⟨false,rfl,⟨fun h=>absurd h (by decide),fun h=>absurd (h.2.2.1 j (by omega)) (by show ¬okP (l[((j:Nat):Int).toNat]?.getD default);unfold okP;unfold cD at *;omega)⟩,rfl,rfl⟩
 · refine Ar.re 18 rfl (show _=Value.int .i64 ((j+1:Nat):Int) from rfl) ?_
   refine aH (j+1) ?_ ?_
   · refine ⟨by omega,fun i' h2=>?_⟩
     rcases Nat.lt_or_ge i' j with h | h
     · exact hno i' h
     have e:i'=j:=by omega
     subst e
     show okP (l[((i':Nat):Int).toNat]?.getD default)
     unfold okP;unfold cD at *;omega
   omega
 refine ⟨!tb1,rfl,?_,rfl,rfl⟩
 have e:(∀ i,i<l.length→okP (l[i]?.getD default)):=fun i hi=>hno i (by omega)
 rw [Bool.not_eq_true',Bool.eq_false_iff,ne_eq,htb1]
 exact ⟨fun h=>⟨by omega,by omega,e,h⟩,fun h=>h.2.2.2⟩
theorem c127 (G:Imm) (a b c d:Int) (hp:cD a b) (hq:cD c d):Does Tryz.prog 127 [.agg #[.int .i64 a,.int .i64 b],.agg #[.int .i64 c,.int .i64 d]] G [] (fun v G' Ho=>v=.int .i64 (a*d - c*b)∧G'=G∧Ho=[]):=by
 refine D0 Tryz.func127 Tryz.ntmps127 fun w=>?_
 have m1:=aGC hp hq
 have m2:=aGC hq hp
 refine Wc.gl 2 [] ?_
 refine Wl.x 0 fun b1=>?_
 refine Wl.x 1 fun b2=>?_
 refine Wl.gl 9 [0,1] ?_
 refine Wl.p (Qy.mul rfl rfl (by omega)) ?_
 refine aA 4 [1,0] ?_
 refine Wl.p (Qy.mul rfl rfl (by omega)) ?_
 refine Wl.ga 5 [] ?_
 refine Ar.e1 ?_
 exact ⟨rfl,rfl,rfl⟩
instance (a b c d:Int):Decidable (if (a=0∧b=0)∨(c=0∧d=0) then (a=0∧b=0)∧(c=0∧d=0) else a*d - c*b=0):=by split <;> infer_instance
def sT (a b c d:Int):Prop:=if (a=0∧b=0)∨(c=0∧d=0) then (a=0∧b=0)∧(c=0∧d=0) else a*d - c*b=0
instance (a b c d:Int):Decidable (sT a b c d):=inferInstanceAs (Decidable (if (a=0∧b=0)∨(c=0∧d=0) then (a=0∧b=0)∧(c=0∧d=0) else a*d - c*b=0))
theorem c71 (G:Imm) (a b c d:Int) (hp:cD a b) (hq:cD c d):Does Tryz.prog 71 [.agg #[.int .i64 a,.int .i64 b],.agg #[.int .i64 c,.int .i64 d]] G [] (fun v G' Ho=>v=.bool (decide (sT a b c d))∧G'=G∧Ho=[]):=by
 refine D0 Tryz.func71 Tryz.ntmps71 fun w=>?_
 refine Wc.gl 2 [] ?_
 refine Wl.x 0 fun b1=>?_
 refine Wl.x 1 fun b2=>?_
 refine Wl.gl 7 [0] ?_
 refine Wl.k0 rfl (by apply c70 <;> first | assumption | omega | rfl) ?_
 refine aA 1 [] ?_
 apply aG 3 7 10 rfl
 intro hg1
 refine aA 3 [1] ?_
 refine Wl.k0 rfl (by apply c70 <;> first | assumption | omega | rfl) ?_
 refine aA 1 [] ?_
 exact Wl.b 3 0
 intro hg1
 refine aA 3 [] ?_
 exact Wl.b 3 0
 refine Wl.gc 2 [] ?_
 refine Wc.i (fun hc1=>?_) fun hc1=>?_
 refine Wc.gl 3 [0] ?_
 refine Wl.k0 rfl (by apply c70 <;> first | assumption | omega | rfl) ?_
 refine aA 1 [] ?_
 apply aM 3 13 16 rfl
 intro hg1
 refine aA 3 [1] ?_
 refine Wl.k0 rfl (by apply c70 <;> first | assumption | omega | rfl) ?_
 refine aA 1 [] ?_
 exact Wl.b 3 0
 intro hg1
 refine aA 3 [] ?_
 exact Wl.b 3 0
 refine Wl.ga 5 [] ?_
 refine Ar.e1 ?_
 rotate_left
 refine Wc.gl 6 [0,1] ?_
 refine Wl.k0 rfl (c127 _ _ _ _ _ ‹_› ‹_›) ?_
 refine Wl.ga 5 [] ?_
 refine Ar.e1 ?_
 rotate_left
 · exact ⟨by congr 1;exact decide_eq_decide.mpr (by unfold sT;rw [if_pos hc1]),rfl,rfl⟩
 exact ⟨by congr 1;exact decide_eq_decide.mpr (by unfold sT;rw [if_neg hc1]),rfl,rfl⟩
def aMN (p q:R2):Prop:=cD p.a p.b∧cD q.a q.b∧sT p.a p.b q.a q.b
def aRE (l:List R2):Prop:=∃ j,j<l.length∧∃ i,i<j∧aMN (l[i]?.getD default) (l[j]?.getD default)
theorem pX {y g:Int} (h:y*g<0) (hg:g<0):0<y:=by
 rcases Int.lt_trichotomy y 0 with h1 | h1 | h1
 · have:=Int.mul_pos_of_neg_of_neg h1 hg;omega
 · subst h1;rw [Int.zero_mul] at h;omega
 exact h1
theorem nY {y g:Int} (h:0<y*g) (hg:0<g):0<y:=by
 rcases Int.lt_trichotomy y 0 with h1 | h1 | h1
 · have:=Int.mul_neg_of_neg_of_pos h1 hg;omega
 · subst h1;rw [Int.zero_mul] at h;omega
 exact h1
theorem rM {a b:Int} (h:¬(a=0∧b=0)):∃ x y g:Int,nrm a b=(x,y)∧g≠0∧x*g=a∧y*g=b∧Int.gcd x y=1∧(0<y∨(y=0∧0<x)):=by
 have hg0:0<Int.gcd a b:=by
  rcases Nat.eq_zero_or_pos (Int.gcd a b) with h0 | h0
  · exact absurd (Int.gcd_eq_zero_iff.mp h0) h
  exact h0
 have hgn:dC a b≠0:=by unfold dC;split <;> omega
 have habs:(dC a b).natAbs=Int.gcd a b:=by unfold dC;split <;> omega
 have d1:dC a b ∣ a:=Int.natAbs_dvd.mp (by rw [habs];exact Int.gcd_dvd_left a b)
 have d2:dC a b ∣ b:=Int.natAbs_dvd.mp (by rw [habs];exact Int.gcd_dvd_right a b)
 have e1:=Int.tdiv_mul_cancel d1
 have e2:=Int.tdiv_mul_cancel d2
 refine ⟨a.tdiv (dC a b),b.tdiv (dC a b),dC a b,by unfold nrm;rw [if_neg h],hgn,e1,e2,?_,?_⟩
 · show Nat.gcd (a.tdiv (dC a b)).natAbs (b.tdiv (dC a b)).natAbs=1
   rw [show (a.tdiv (dC a b)).natAbs=a.natAbs / (dC a b).natAbs from Int.natAbs_tdiv _ _,show (b.tdiv (dC a b)).natAbs=b.natAbs / (dC a b).natAbs from Int.natAbs_tdiv _ _,habs]
   exact Nat.coprime_div_gcd_div_gcd hg0
 generalize hx:a.tdiv (dC a b)=x at *
 generalize hy:b.tdiv (dC a b)=y at *
 rcases Int.lt_trichotomy b 0 with hb | hb | hb
 · left
   refine pX (g:=dC a b) (by omega) ?_
   unfold dC;rw [if_pos (.inl hb)];omega
 · right
   have hy0:y=0:=by
    rcases Int.mul_eq_zero.mp (show y*dC a b=0 by omega) with h1 | h1
    · exact h1
    exact absurd h1 hgn
   refine ⟨hy0,?_⟩
   rcases (show a<0∨0≤a by omega) with ha | ha
   · refine pX (g:=dC a b) (by omega) ?_
     unfold dC;rw [if_pos (.inr ⟨hb,ha⟩)];omega
   refine nY (g:=dC a b) (by omega) ?_
   unfold dC;rw [if_neg (by omega)];omega
 left
 refine nY (g:=dC a b) (by omega) ?_
 unfold dC;rw [if_neg (by omega)];omega
theorem aIN {x y u v:Int} (h1:Int.gcd x y=1) (h2:Int.gcd u v=1) (s1:0<y∨(y=0∧0<x)) (s2:0<v∨(v=0∧0<u)) (h:x*v=u*y):x=u∧y=v:=by
 have e:x.natAbs*v.natAbs=u.natAbs*y.natAbs:=by rw [←Int.natAbs_mul,←Int.natAbs_mul,h]
 have c1:Nat.Coprime x.natAbs y.natAbs:=h1
 have c2:Nat.Coprime u.natAbs v.natAbs:=h2
 have p1:x.natAbs ∣ u.natAbs:=c1.dvd_of_dvd_mul_right (e▸Nat.dvd_mul_right _ _)
 have p2:u.natAbs ∣ x.natAbs:=c2.dvd_of_dvd_mul_right (e▸Nat.dvd_mul_right _ _)
 have p3:y.natAbs ∣ v.natAbs:=c1.symm.dvd_of_dvd_mul_left (e▸Nat.dvd_mul_left _ _)
 have p4:v.natAbs ∣ y.natAbs:=c2.symm.dvd_of_dvd_mul_left (e▸Nat.dvd_mul_left _ _)
 have q1:=Nat.dvd_antisymm p1 p2
 have q2:=Nat.dvd_antisymm p3 p4
 have hyv:y=v:=by omega
 refine ⟨?_,hyv⟩
 subst hyv
 rcases s1 with s | s
 · exact Int.eq_of_mul_eq_mul_right (by omega) h
 omega
theorem aMO (a b c d:Int):same a b c d↔sT a b c d:=by
 unfold same sT
 by_cases hp:a=0∧b=0
 · by_cases hq:c=0∧d=0
   · rw [if_pos (.inl hp)]
     obtain ⟨rfl,rfl⟩:=hp
     obtain ⟨rfl,rfl⟩:=hq
     exact ⟨fun _=>⟨⟨rfl,rfl⟩,rfl,rfl⟩,fun _=>rfl⟩
   rw [if_pos (.inl hp)]
   refine ⟨fun h=>?_,fun h=>absurd h.2 hq⟩
   obtain ⟨u,v,k,e2,hk,_,_,_,s2⟩:=rM hq
   have e1:nrm a b=(0,0):=by unfold nrm;rw [if_pos hp,hp.1,hp.2]
   rw [e1,e2] at h
   injection h with h3 h4
   omega
 obtain ⟨x,y,g,e1,hg,f1,f2,c1,s1⟩:=rM hp
 by_cases hq:c=0∧d=0
 · rw [if_pos (.inr hq)]
   refine ⟨fun h=>?_,fun h=>absurd h.1 hp⟩
   have e2:nrm c d=(0,0):=by unfold nrm;rw [if_pos hq,hq.1,hq.2]
   rw [e1,e2] at h
   injection h with h3 h4
   omega
 obtain ⟨u,v,k,e2,hk,f3,f4,c2,s2⟩:=rM hq
 rw [if_neg (fun h=>h.elim hp hq),e1,e2]
 have key:a*d - c*b=(x*v - u*y)*(g*k):=by
  rw [←f1,←f2,←f3,←f4,Int.sub_mul]
  congr 1 <;> ac_rfl
 constructor
 · intro h
   injection h with h3 h4
   rw [key,h3,h4,Int.sub_self,Int.zero_mul]
 intro h
 rw [key] at h
 have hgk:g*k≠0:=fun h0=>(Int.mul_eq_zero.mp h0).elim hg hk
 have h5:x*v - u*y=0:=(Int.mul_eq_zero.mp h).resolve_right hgk
 obtain ⟨r1,r2⟩:=aIN c1 c2 s1 s2 (by omega)
 rw [r1,r2]
theorem aBZ (l:List R2):Twin l↔aRE l:=by
 unfold Twin aRE zF aMN
 simp only [aMO]
section
attribute [local irreducible] aB pb bL bK p2
theorem c207 (G:Imm) (x:IV) (z n:Int) (hx:Big G x z) (h1:x.n≤536870912) (hn:-9223372036854775808≤n∧n≤9223372036854775807) :
 Does Tryz.prog 207 [.agg (Cells.enc x).toArray,.int .i64 n] G [] (fun v G' Ho=>∃ r:IV,v=.agg (Cells.enc r).toArray∧Big G' r (z*n)∧Ho=[]):=by
 have hn3:(n.natAbs:Int)<pb 3:=by
  have e:pb 3=79228162514264337593543950336:=by unfold pb;decide
  omega
 obtain ⟨n1,a,k1,ca⟩:=x
 refine D0 Tryz.func207 Tryz.ntmps207 fun w=>?_
 refine Wc.gl 2 [] ?_
 refine Wl.x 0 fun b1=>?_
 refine Wl.alloc 1 rfl T.zero125 fun b2=>?_
 refine Wl.gc 3 [] ?_
 refine aN [0,1] [(1,4)] T.mixed [[0,0],[1]] ?_
 refine Gm.o1 2 ?_
 refine Wl.k 2 rfl (c78 _ _ (by omega)) fun v1 G1 Ho1 hle1 hp=>?_
 obtain ⟨ro,rfl,hro,rfl⟩:=hp
 replace hx:=hx.up hle1
 refine Wl.o1 3 ?_
 refine Wl.k 2 rfl (c75 _ _ _ _ _ hx hro h1 (Nat.le_trans (Big.len hro hn3) (by decide))) fun v2 G2 Ho2 hle2 hp=>?_
 obtain ⟨rm,rfl,hrm,rfl⟩:=hp
 replace hro:=hro.up hle2
 replace hx:=hx.up hle2
 refine Wl.o1 4 ?_
 refine aA 1 [1] ?_
 refine aZ ?_
 refine Ar.ga 2 [] ?_
 refine aT (.inr rfl) (Ho:=Hp.only _ []) rfl (.agg 1 rfl rfl T.agg125) (aC _ _) ?_
 exact ⟨rm,rfl,hrm,rfl⟩
end
section
attribute [local irreducible] aB pb bL bK p2
def dQ (a b:Int) (n:Nat):List Int:=(List.range n).map fun j=>a ^ j*b ^ (n - 1 - j)
theorem c157 (G:Imm) (a b:Int) (n:Nat) (hp:cD a b) (hn:n≤15) :
 Does Tryz.prog 157 [.agg #[.int .i64 a,.int .i64 b],.int .i64 n] G [] (fun v G' Ho=>∃ (s:Option Addr) (r:List IV) (c':Nat),v=.tuple #[.slice s r.length c',.int .i64 0]∧Arr G' s r∧Bigs G' r (dQ a b n)∧r.length≤c'∧Ho=[]):=by
 refine D0 Tryz.func157 Tryz.ntmps157 fun w=>?_
 have hpn:¬((¬cD a b∨(n:Int)<0)∨16<(n:Int)):=by unfold cD at *;omega
 refine Wc.gl 2 [] ?_
 refine Wl.x 0 fun b1=>?_
 refine Wl.gl 8 [0] ?_
 refine Wl.k0 rfl (by apply c72 <;> first | assumption | omega | rfl) ?_
 refine Wl.p (aW rfl) ?_
 refine aA 1 [] ?_
 apply aG 3 14 17 rfl
 intro hg1
 refine aA 5 [] ?_
 exact Wl.b 3 0
 intro hg1
 refine aA 3 [] ?_
 exact Wl.b 3 0
 refine aA 1 [] ?_
 apply aG 3 18 21 rfl
 intro hg1
 refine aA 5 [] ?_
 exact Wl.b 3 0
 intro hg1
 refine aA 3 [] ?_
 exact Wl.b 3 0
 refine Wl.gl 8 [0] ?_
 refine Wl.make (α:=IV) 1 rfl T.sl68 T.el125 rfl rfl (by omega) (by omega) fun b2=>?_
 refine Wl.gl 5 [] ?_
 refine Wl.k 2 rfl (c78 _ 1 (by decide)) fun v1 G1 Ho1 hle1 hp=>?_
 obtain ⟨ro1,rfl,hro1,rfl⟩:=hp
 refine Wl.k 2 rfl (c78 _ 1 (by decide)) fun v2 G2 Ho2 hle2 hp=>?_
 obtain ⟨ro2,rfl,hro2,rfl⟩:=hp
 replace hro1:=hro1.up hle2
 refine Wl.alloc 2 rfl T.zero125 fun b3=>?_
 refine Wl.alloc 3 rfl T.zero125 fun b4=>?_
 refine Wl.gc 13 [2,3] ?_
 refine Wc.re 6 rfl (show _=Value.slice (some ⟨b2,0,none⟩) (List.replicate n (default:IV)).length n by simp) ?_
 have e2:(List.replicate n (default:IV)).length=n:=List.length_replicate ..
 refine cS (ι:=Nat×Imm×List IV×IV×(Option Addr×Nat×List Value)) (fun (k,Gx,r,x,(o,d,j))=>([(28,.int .i64 (k:Int)),(6,.slice o r.length d),(27,.int .i64 (↑(List.length (List.replicate (Int.toNat (↑n:Int)) default)):Int)),(8,.pointer (some (Addr.mk b4 0 none))),(7,.pointer (some (Addr.mk b3 0 none))),(5,.int .i64 0),(4,.slice none 0 0),(2,.pointer (some ⟨b1,0,none⟩)),(1,.int .i64 (↑n:Int))],[(1,o.map (·.block),Row 125 r j),(2,some b3,.cells (Cells.enc x).toArray 125),(3,some b4,.cells (List.toArray (Cells.enc ro2)) 125),(0,some b1,.cells #[.int .i64 a,.int .i64 b] 52)])) (fun (k,Gx,r,x,(o,d,j))=>Gx) (fun (k,Gx,r,x,(o,d,j))=>k≤n∧G2.le Gx∧r.length=n∧Bigs Gx r ((List.range n).map fun i=>if i<k then a ^ i else 0)∧Big Gx x (a ^ k)∧OwnA o d r j) (fun (k,Gx,r,x,(o,d,j))=>n - k) ((0,G2,List.replicate n default,ro1,(some ⟨b2,0,none⟩,n,[]))) (⟨Nat.zero_le _,Imm.le_refl _,List.length_replicate ..,by have e:(List.range n).map (fun i=>if i<0 then a ^ i else 0)=List.replicate n (0:Int):=by { apply List.ext_getElem <;> simp };rw [e];exact lT _ _,by rw [Int.pow_zero];exact hro1,.inr ⟨b2,rfl,by rw [List.length_replicate];rfl,by omega,by simp only [maxLen];omega⟩⟩) rfl ⟨rfl,rfl,rfl,rfl,rfl,rfl,rfl,rfl,rfl,trivial⟩ ⟨rfl,rfl,rfl,rfl,trivial⟩ fun ⟨k,Gx,r,x,(o,d,j)⟩=>fun hk=>?_
 obtain ⟨hk1,hk2,hk3,hk4,hk5,hob⟩:=hk
 have e1:(List.replicate ((n:Int)).toNat (default:IV)).length=n:=by rw [List.length_replicate];omega
 have e0:(List.replicate n (default:IV)).length=n:=List.length_replicate ..
 have hx3:k≤15→((a ^ k).natAbs:Int)<pb 3:=fun h=>by
  have e:pb 3=79228162514264337593543950336:=by unfold pb;decide
  have e2:(a ^ k).natAbs≤16 ^ 15:=by
   rw [Int.natAbs_pow]
   exact Nat.le_trans (Nat.pow_le_pow_left (show a.natAbs≤16 by unfold cD at hp;omega) k) (Nat.pow_le_pow_right (by omega) h)
  have e3:(16:Nat) ^ 15=1152921504606846976:=by decide
  omega
 have hxn:x.n≤536870912:=Nat.le_trans (Big.len hk5 (hx3 (by omega))) (by decide)
 refine Wc.gc 6 [] ?_
 refine Wc.i (fun hc1=>?_) fun hc1=>?_
 refine Wc.gl 15 [2] ?_
 refine bR (α:=IV) T.sl68 ?_
 rotate_left
 refine Wc.gc 14 [] ?_
 rotate_left
 · refine bG (z:=x) 1 T.size125 rfl rfl rfl ‹_› (by omega) rfl fun h9=>?_
   refine Wl.gl 6 [2,0] ?_
   refine Wl.k 4 rfl (c207 _ _ _ a hk5 hxn (by unfold cD at hp;omega)) fun v3 G3 Ho3 hle3 hp=>?_
   obtain ⟨rt,rfl,hrt,rfl⟩:=hp
   replace hk4:=hk4.up hle3
   replace hk5:=hk5.up hle3
   refine Wl.ga 8 [2] ?_
   have hle3':Gx.le G3:=hle3
   refine Ar.re 28 rfl (show _=Value.int .i64 ((k+1:Nat):Int) from rfl) ?_
   refine Ar.re 6 rfl (show _=Value.slice o (r.set ((k:Nat):Int).toNat x).length d by rw [List.length_set]) ?_
   refine aH ((k+1,G3,r.set ((k:Nat):Int).toNat x,rt,(o,d,j))) ?_ ?_
   · refine ⟨by omega,Imm.le_trans hk2 hle3',by rw [List.length_set];exact hk3,?_,by rw [Int.pow_succ];exact hrt,h9⟩
     have h8:=hk4.set k hk5
     rw [Int.toNat_natCast]
     have e:((List.range n).map fun i=>if i<k then a ^ i else 0).set k (a ^ k)=(List.range n).map fun i=>if i<k+1 then a ^ i else 0:=by
      apply List.ext_getElem
      · simp
      intro i h1 h2
      rw [List.getElem_set]
      simp only [List.getElem_map,List.getElem_range]
      by_cases h:k=i
      · subst h;simp
      rw [if_neg h]
      by_cases h7:i<k
      · rw [if_pos h7,if_pos (by omega)]
      rw [if_neg h7,if_neg (by omega)]
     rw [e] at h8;exact h8
   show n - (k+1)<n - k
   omega
 have hkn:k=n:=by omega
 subst hkn
 have hl1:(List.range k).map (fun i=>if i<k then a ^ i else (0:Int))=(List.range k).map fun m=>if ((m:Nat):Int)≤(k:Int) - 1 then a ^ m else a ^ m*b ^ (k - 1 - m):=by
  apply List.map_congr_left
  intro m hm
  rw [List.mem_range] at hm
  rw [if_pos hm,if_pos (by omega)]
 rw [hl1] at hk4
 refine Wc.lg (ι:=Int×Imm×List IV×IV) (fun (i,Gy,q,y)=>([(10,.int .i64 i),(6,.slice o q.length d),(8,.pointer (some (Addr.mk b4 0 none))),(5,.int .i64 0),(4,.slice none 0 0),(2,.pointer (some ⟨b1,0,none⟩))],[(1,o.map (·.block),Row 125 q j),(3,some b4,.cells (Cells.enc y).toArray 125),(2,some b3,.cells (List.toArray (Cells.enc x)) 125),(0,some b1,.cells #[.int .i64 a,.int .i64 b] 52)])) (fun (i,Gy,q,y)=>Gy) (fun (i,Gy,q,y)=>-1≤i∧i<k∧Gx.le Gy∧q.length=k∧Bigs Gy q ((List.range k).map fun m=>if ((m:Nat):Int)≤i then a ^ m else a ^ m*b ^ (k - 1 - m))∧Big Gy y (b ^ ((k:Int) - 1 - i).toNat)∧OwnA o d q j) (fun (i,Gy,q,y)=>(i+1).toNat) (((k:Int) - 1,Gx,r,ro2)) (⟨by omega,by omega,Imm.le_refl _,hk3,hk4,by rw [show ((k:Int) - 1 - ((k:Int) - 1)).toNat=0 by omega,Int.pow_zero];exact hro2.up hk2,hob⟩) fun ⟨i,Gy,q,y⟩=>fun hk=>?_
 obtain ⟨hi1,hi2,hi3,hi4,hi5,hi6,hi7⟩:=hk
 rcases Int.lt_or_le i 0 with hi0 | hi0
 · have hi9:i=-1:=by omega
   subst hi9
   have hl2:(List.range k).map (fun m=>if ((m:Nat):Int)≤-1 then a ^ m else a ^ m*b ^ (k - 1 - m))=dQ a b k:=by
    unfold dQ
    apply List.map_congr_left
    intro m hm
    rw [if_neg (by omega)]
   rw [hl2] at hi5
   refine Wc.ga 21 [0] ?_
   refine Ar.freezeRow 1 rfl hi7 fun G8 hle8 hA8=>?_
   refine Ar.e2 ?_
   exact ⟨_,_,_,rfl,hA8,hi5.up hle8,hi7.le,rfl⟩
 obtain ⟨m,rfl⟩:∃ m:Nat,i=(m:Int):=⟨i.toNat,by omega⟩
 have hmk:m<k:=by omega
 have hbe:Big Gy (q[((m:Nat):Int).toNat]?.getD default) (a ^ m):=by
  have h9:=hi5.2 m (by omega)
  rw [List.getElem?_map,List.getElem?_range hmk] at h9
  rw [Int.toNat_natCast]
  simpa using h9
 have hsm:∀ (c:Int) (e:Nat),-16≤c∧c≤16→e≤15→((c ^ e).natAbs:Int)<pb 3:=fun c e hc he=>by
  have e0:pb 3=79228162514264337593543950336:=by unfold pb;decide
  have e2:(c ^ e).natAbs≤16 ^ 15:=by
   rw [Int.natAbs_pow]
   exact Nat.le_trans (Nat.pow_le_pow_left (show c.natAbs≤16 by omega) e) (Nat.pow_le_pow_right (by omega) he)
  have e3:(16:Nat) ^ 15=1152921504606846976:=by decide
  omega
 have hlq:=Big.len hbe (hsm a m (by unfold cD at hp;omega) (by omega))
 have hly:=Big.len hi6 (hsm b _ (by unfold cD at hp;omega) (by omega))
 have hyn:y.n≤536870912:=Nat.le_trans hly (by decide)
 refine Wc.gc 13 [1] ?_
 refine aN [0,2,3,1] [(1,9),(3,9),(2,9),(0,9)] T.mixed [[0],[1],[2],[3]] ?_
 refine eM (α:=IV) 4 T.sl68 ?_
 refine Gm.u 5 [1] rfl (aHP 1 T.agg125 rfl rfl ‹_› (by omega)) ?_
 refine Gm.r [[6,3]] ?_
 refine Gm.o1 7 ?_
 refine Wl.k 4 rfl (c75 _ _ _ _ _ hbe hi6 (Nat.le_trans hlq (by decide)) (Nat.le_trans hly (by decide))) fun v3 G3 Ho3 hle3 hp=>?_
 obtain ⟨rm3,rfl,hrm3,rfl⟩:=hp
 replace hi5:=hi5.up hle3
 replace hi6:=hi6.up hle3
 replace hbe:=hbe.up hle3
 refine aO ?_
 refine eM (α:=IV) 8 T.sl68 ?_
 refine Gm.o1 9 ?_
 refine bG (z:=rm3) 1 T.size125 rfl rfl rfl ‹_› (by omega) rfl fun h9=>?_
 refine aZ ?_
 refine Ar.gl 5 [3,0] ?_
 refine Wl.k 4 rfl (c207 _ _ _ b ‹_› hyn (by unfold cD at hp;omega)) fun v4 G4 Ho4 hle4 hp=>?_
 obtain ⟨rt4,rfl,hrt4,rfl⟩:=hp
 replace hrm3:=hrm3.up hle4
 replace hi5:=hi5.up hle4
 replace hi6:=hi6.up hle4
 replace hbe:=hbe.up hle4
 refine Wl.ga 9 [3] ?_
 refine Ar.re 6 rfl (show _=Value.slice o (q.set ((m:Nat):Int).toNat rm3).length d by rw [List.length_set]) ?_
 refine aH (((m:Int) - 1,_,q.set ((m:Nat):Int).toNat rm3,rt4)) ?_ ?_
 · refine ⟨by omega,by omega,Imm.le_trans hi3 (Imm.le_trans ‹_› ‹_›),by rw [List.length_set];exact hi4,?_,?_,h9⟩
   · have h8:=hi5.set m hrm3
     rw [Int.toNat_natCast]
     have e:((List.range k).map fun q=>if ((q:Nat):Int)≤(m:Int) then a ^ q else a ^ q*b ^ (k - 1 - q)).set m (a ^ m*b ^ ((k:Int) - 1 - (m:Int)).toNat)=(List.range k).map fun q=>if ((q:Nat):Int)≤(m:Int) - 1 then a ^ q else a ^ q*b ^ (k - 1 - q):=by
      apply List.ext_getElem
      · simp
      intro i h1 h2
      rw [List.getElem_set]
      simp only [List.getElem_map,List.getElem_range]
      by_cases h:m=i
      · subst h
        rw [if_pos rfl,if_neg (by omega)]
        congr 2
        omega
      rw [if_neg h]
      by_cases h7:(i:Int)≤(m:Int)
      · rw [if_pos h7,if_pos (by omega)]
      rw [if_neg h7,if_neg (by omega)]
     rw [e] at h8;exact h8
   have e:((k:Int) - 1 - ((m:Int) - 1)).toNat=((k:Int) - 1 - (m:Int)).toNat+1:=by omega
   rw [e,Int.pow_succ];exact hrt4
 show ((m:Int) - 1+1).toNat<((m:Int)+1).toNat
 omega
end
section
attribute [local irreducible] aB pb bL bK p2 fC dQ
def BRow (G:Imm) (s:SV) (zs:List Int):Prop:=∃ l:List IV,l.length=s.n∧s.n≤s.c∧Arr G s.a l∧Bigs G l zs
theorem BRow.up {G G':Imm} {s:SV} {zs:List Int} (h:BRow G s zs) (hl:G.le G'):BRow G' s zs:=by
 obtain ⟨l,h1,h2,h3,h4⟩:=h
 exact ⟨l,h1,h2,h3.up hl,h4.up hl⟩
def BGrid (G:Imm) (l:List SV) (rs:List (List Int)):Prop:=l.length=rs.length∧∀ i:Nat,i<l.length→BRow G (l[i]?.getD default) (rs[i]?.getD [])
theorem BGrid.up {G G':Imm} {l:List SV} {rs:List (List Int)} (h:BGrid G l rs) (hl:G.le G'):BGrid G' l rs:=⟨h.1,fun i hi=>(h.2 i hi).up hl⟩
theorem BGrid.nil (G:Imm):BGrid G [] []:=⟨rfl,fun i hi=>by simp at hi⟩
theorem BGrid.snoc {G:Imm} {l:List SV} {rs:List (List Int)} (h:BGrid G l rs) {s:SV} {zs:List Int} (hs:BRow G s zs):BGrid G (l++[s]) (rs++[zs]):=by
 refine ⟨by rw [List.length_append,List.length_append,h.1];rfl,fun i hi=>?_⟩
 rw [List.length_append,List.length_singleton] at hi
 rcases Nat.lt_or_ge i l.length with h1 | h1
 · rw [List.getElem?_append_left h1,List.getElem?_append_left (by rw [←h.1];exact h1)];exact h.2 i h1
 have:i=l.length:=by omega
 subst this
 rw [List.getElem?_append_right (Nat.le_refl _),List.getElem?_append_right (by rw [h.1];exact Nat.le_refl _),Nat.sub_self,h.1,Nat.sub_self]
 exact hs
theorem c144Y (G:Imm) (a:Option Addr) (c:Nat) (l:List R2) (ha:Arr G a l) (h1:l.length≤1048576) (hc:l.length≤c) (hR:fC l):Does Tryz.prog 144 [.slice a l.length c] G [] (fun v G' Ho=>v=.bool true∧G'=G∧Ho=[]):=
 (c144 G a c l ha h1 hc).mono fun v G' Ho _ ⟨b,e1,e2,e3,e4⟩=>⟨by rw [e1,e2.2 hR],e3,e4⟩
def dD (l:List R2):List (List Int):=l.map fun p=>dQ p.a p.b l.length
theorem aMP (G:Imm) (a:Option Addr) (c:Nat) (l:List R2) (ha:Arr G a l) (h1:l.length≤1048576) (hc:l.length≤c) (hR:fC l) (hr1:l.length≤15) (hr2:∀ i,i<l.length→okP (l[i]?.getD default)) :
 Does Tryz.prog 158 [.slice a l.length c] G [] (fun v G' Ho=>∃ (s:Option Addr) (r:List SV) (c':Nat),v=.tuple #[.slice s r.length c',.int .i64 0]∧Arr G' s r∧BGrid G' r (dD l)∧r.length≤c'∧Ho=[]):=by
 refine D0 Tryz.func158 Tryz.ntmps158 fun w=>?_
 refine bF 9 (Row 68 ([]:List SV) []) ?_
 refine Wc.gl 10 [] ?_
 refine Wl.k0 rfl (c144Y _ _ _ l ‹_› (by omega) hc hR) ?_
 refine Wl.gc 20 [0] ?_
 refine cS (ι:=Nat×Imm×List SV×(Option Addr×Nat×List Value)) (fun (i,Gx,r,(o,d,j))=>([(14,.int .i64 (i:Int)),(4,.slice o r.length d),(13,.int .i64 (l.length:Int)),(12,.slice a (List.length l) c),(3,.int .i64 0),(2,.slice none 0 0),(0,.slice a (List.length l) c)],[(9,o.map (·.block),Row 68 r j)])) (fun (i,Gx,r,(o,d,j))=>Gx) (fun (i,Gx,r,(o,d,j))=>i≤l.length∧G.le Gx∧r.length=i∧BGrid Gx r ((dD l).take i)∧OwnA o d r j) (fun (i,Gx,r,(o,d,j))=>l.length - i) ((0,G,[],(none,0,[]))) (⟨Nat.zero_le _,Imm.le_refl _,rfl,by rw [List.take_zero];exact BGrid.nil _,OwnA.nil⟩) rfl ⟨rfl,rfl,rfl,rfl,rfl,rfl,rfl,trivial⟩ ⟨rfl,trivial⟩ fun ⟨i,Gx,r,(o,d,j)⟩=>fun hk=>?_
 obtain ⟨hi1,hi2,hi3,hi4,hi5⟩:=hk
 replace ha:=ha.up hi2
 rcases Nat.lt_or_ge i l.length with hil | hil
 · have hnear:cD (l[((i:Nat):Int).toNat]?.getD default).a (l[((i:Nat):Int).toNat]?.getD default).b:=(hr2 i hil).1
   refine Wc.gl 13 [1] ?_
   refine Wl.at (α:=R2) T.sl22 ?_
   refine Wl.le T.agg52 ?_
   refine Wl.alloc 10 rfl T.zero52 fun b1=>?_
   refine Wl.gl 8 [10,10] ?_
   refine Wl.k 11 rfl (c157 _ _ _ l.length hnear (by omega)) fun v1 G1 Ho1 hle1 hp=>?_
   obtain ⟨ps1,pr1,pc1,rfl,hpA1,hpB1,hpL1,rfl⟩:=hp
   replace ha:=ha.up hle1
   refine Wl.gl 10 [] ?_
   refine Wl.lit (α:=SV) 11 [⟨_,_,_⟩] rfl T.sl237 T.el68 rfl rfl rfl rfl rfl fun b2=>?_
   refine Wl.ap (α:=SV) 9 T.sl237 T.el68 (Src.row 11 rfl) fun a1 c1 junk1 ho1=>?_
   refine Wl.ga 8 [] ?_
   refine Ar.re 14 rfl (show _=Value.int .i64 ((i+1:Nat):Int) from rfl) ?_
   refine aH ((i+1,_,r++[⟨ps1,pr1.length,pc1⟩],(a1,c1,junk1))) ?_ ?_
   · refine ⟨by omega,Imm.le_trans hi2 ‹_›,by rw [List.length_append,hi3];rfl,?_,ho1⟩
     have e:(dD l).take (i+1)=(dD l).take i++[dQ (l[((i:Nat):Int).toNat]?.getD default).a (l[((i:Nat):Int).toNat]?.getD default).b l.length]:=by
      rw [List.take_add_one]
      congr 1
      unfold dD
      rw [List.getElem?_map,Int.toNat_natCast,List.getElem?_eq_getElem hil];rfl
     rw [e]
     exact (hi4.up ‹_›).snoc ⟨pr1,rfl,hpL1,hpA1,hpB1⟩
   show l.length - (i+1)<l.length - i
   omega
 have hie:i=l.length:=by omega
 subst hie
 have e:(dD l).take l.length=dD l:=List.take_of_length_le (by unfold dD;rw [List.length_map];exact Nat.le_refl _)
 rw [e] at hi4
 refine Wc.ga 20 [0] ?_
 refine Ar.freezeRow 9 rfl hi5 fun G8 hle8 hA8=>?_
 refine Ar.e2 ?_
 exact ⟨_,_,_,rfl,hA8,hi4.up hle8,hi5.le,rfl⟩
end
section
attribute [local irreducible] aB aD pb pw bL bK p2 fC dQ
def mV (z:Int):Prop:=z.natAbs<18446744073709551616
theorem aGD {G:Imm} {x:IV} {z:Int} (h:Num G x z) (hz:mV z):x.n≤4:=by
 obtain ⟨l,h1,_,_,h4⟩:=h
 rw [←h1]
 refine h4.len ?_
 have e:pw 4=18446744073709551616:=by unfold pw;decide
 unfold mV at hz;omega
theorem rN {c:Int} {e:Nat} (hc:-16≤c∧c≤16) (he:e≤15):mV (c ^ e):=by
 unfold mV
 have e2:(c ^ e).natAbs≤16 ^ 15:=by
  rw [Int.natAbs_pow]
  exact Nat.le_trans (Nat.pow_le_pow_left (show c.natAbs≤16 by omega) e) (Nat.pow_le_pow_right (by omega) he)
 have e3:(16:Nat) ^ 15=1152921504606846976:=by decide
 omega
theorem aRF (G:Imm) (x y:IV) (zx zy:Int) (hx:Num G x zx) (hy:Num G y zy) (bx:mV zx) (bz:mV zy) :
 Does Tryz.prog 165 [.agg #[.bool x.neg,.slice x.a x.n x.c],.agg #[.bool y.neg,.slice y.a y.n y.c]] G [] (fun v G' Ho=>∃ r:IV,v=.agg #[.bool r.neg,.slice r.a r.n r.c]∧Num G' r (zx*zy)∧Ho=[]):=by
 have f1:=aGD hx bx
 have f2:=aGD hy bz
 obtain ⟨n1,a,k1,ca⟩:=x
 obtain ⟨n2,b,k2,cb⟩:=y
 obtain ⟨la,rfl,hla,hA,hx⟩:=hx
 obtain ⟨lb,rfl,hlb,hB,hy⟩:=hy
 exact c165 G n1 n2 a b ca cb la lb zx zy hA hB hx hy (Nat.le_trans f1 (by decide)) (Nat.le_trans f2 (by decide))
theorem c166 (G:Imm) (x:IV) (z:Int) (e:Nat) (hx:Num G x z) (hz:-16≤z∧z≤16) (he:e≤15) :
 Does Tryz.prog 166 [.agg #[.bool x.neg,.slice x.a x.n x.c],.int .i64 e] G [] (fun v G' Ho=>∃ r:IV,v=.agg #[.bool r.neg,.slice r.a r.n r.c]∧Num G' r (z ^ e)∧Ho=[]):=by
 refine D0 Tryz.func166 Tryz.ntmps166 fun w=>?_
 refine Wc.gl 2 [] ?_
 refine Wl.x 0 fun b1=>?_
 refine Wl.alloc 1 rfl T.zero190 fun b2=>?_
 refine Wl.gl 4 [] ?_
 refine Wl.k 2 rfl (aDX _ 1 (by decide)) fun v1 G1 Ho1 hle1 hp=>?_
 obtain ⟨ro1,rfl,hro1,rfl⟩:=hp
 replace hx:=hx.up hle1
 refine Wl.alloc 2 rfl T.zero190 fun b3=>?_
 refine Wl.gc 10 [2] ?_
 refine Wc.lg (ι:=Nat×Imm×IV) (fun (k,Gx,r)=>([(6,.int .i64 (k:Int)),(5,.pointer (some (Addr.mk b3 0 none))),(4,.pointer (some ⟨b2,0,none⟩)),(2,.pointer (some ⟨b1,0,none⟩)),(1,.int .i64 (↑e:Int))],[(2,some b3,.cells #[.bool r.neg,.slice r.a r.n r.c] 190),(1,some b2,.cells #[.bool Bool.false,.slice none 0 0] 190),(0,some b1,.cells #[.bool (Go.Sl.IV.neg x),.slice (Go.Sl.IV.a x) (Go.Sl.IV.n x) (Go.Sl.IV.c x)] 190)])) (fun (k,Gx,r)=>Gx) (fun (k,Gx,r)=>k≤e∧G1.le Gx∧Num Gx r (z ^ k)) (fun (k,Gx,r)=>e - k) ((0,G1,ro1)) (⟨Nat.zero_le _,Imm.le_refl _,by rw [Int.pow_zero];exact hro1⟩) fun ⟨k,Gx,r⟩=>fun hk=>?_
 obtain ⟨hk1,hk2,hk3⟩:=hk
 rcases Nat.lt_or_ge k e with hke | hke
 · have hx':=hx.up hk2
   have s1:mV (z ^ k):=rN hz (by omega)
   have s2:mV z:=by unfold mV;omega
   refine Wc.gl 16 [1,2,0] ?_
   refine Wl.k 3 rfl (aRF _ r x (z ^ k) z ‹_› ‹_› s1 s2) fun v2 G2 Ho2 hle2 hp=>?_
   obtain ⟨rt2,rfl,hrt2,rfl⟩:=hp
   replace hk3:=hk3.up hle2
   replace hx':=hx'.up hle2
   refine Wl.ga 9 [2] ?_
   refine Ar.re 6 rfl (show _=Value.int .i64 ((k+1:Nat):Int) from rfl) ?_
   refine aH ((k+1,_,rt2)) ?_ ?_
   · exact ⟨by omega,Imm.le_trans hk2 ‹_›,by rw [Int.pow_succ];exact hrt2⟩
   show e - (k+1)<e - k
   omega
 have hke:k=e:=by omega
 subst hke
 refine Wc.ga 21 [0,2,1] ?_
 refine aT (.inr rfl) (Ho:=Hp.only _ []) rfl (.agg 1 rfl rfl T.agg190) (aC _ _) ?_
 exact ⟨_,rfl,hk3,rfl⟩
theorem aRG (G:Imm) (x:IV) (z e:Int) (hx:Num G x z) (hz:-16≤z∧z≤16) (he:0≤e∧e≤15) :
 Does Tryz.prog 166 [.agg #[.bool x.neg,.slice x.a x.n x.c],.int .i64 e] G [] (fun v G' Ho=>∃ r:IV,v=.agg #[.bool r.neg,.slice r.a r.n r.c]∧Num G' r (z ^ e.toNat)∧Ho=[]):=by
 obtain ⟨k,rfl⟩:∃ k:Nat,e=(k:Int):=⟨e.toNat,by omega⟩
 exact c166 G x z k hx hz (by omega)
theorem c116 (G:Imm) (a b:Int) (n:Nat) (hp:cD a b) (hn:n≤15) :
 Does Tryz.prog 116 [.agg #[.int .i64 a,.int .i64 b],.int .i64 n] G [] (fun v G' Ho=>∃ (s:Option Addr) (r:List IV) (c':Nat),v=.slice s r.length c'∧Arr G' s r∧Nums G' r (dQ a b n)∧r.length≤c'∧Ho=[]):=by
 refine D0 Tryz.func116 Tryz.ntmps116 fun w=>?_
 refine bF 9 (Row 190 ([]:List IV) []) ?_
 refine Wc.gl 2 [] ?_
 refine Wl.x 10 fun b1=>?_
 refine Wl.gc 15 [] ?_
 refine cS (ι:=Nat×Imm×List IV×(Option Addr×Nat×List Value)) (fun (k,Gx,r,(o,d,j))=>([(6,.int .i64 (k:Int)),(5,.slice o r.length d),(4,.slice none 0 0),(2,.pointer (some ⟨b1,0,none⟩)),(1,.int .i64 (↑n:Int))],[(9,o.map (·.block),Row 190 r j),(10,some b1,.cells #[.int .i64 a,.int .i64 b] 52)])) (fun (k,Gx,r,(o,d,j))=>Gx) (fun (k,Gx,r,(o,d,j))=>k≤n∧G.le Gx∧r.length=k∧Nums Gx r ((dQ a b n).take k)∧OwnA o d r j) (fun (k,Gx,r,(o,d,j))=>n - k) ((0,G,[],(none,0,[]))) (⟨Nat.zero_le _,Imm.le_refl _,rfl,by rw [List.take_zero];exact Nums.nil _,OwnA.nil⟩) rfl ⟨rfl,rfl,rfl,rfl,rfl,trivial⟩ ⟨rfl,rfl,trivial⟩ fun ⟨k,Gx,r,(o,d,j)⟩=>fun hk=>?_
 obtain ⟨hk1,hk2,hk3,hk4,hk5⟩:=hk
 rcases Nat.lt_or_ge k n with hke | hke
 · have s1:mV (a ^ (k:Int).toNat):=rN (by unfold cD at hp;omega) (by omega)
   have s2:mV (b ^ ((n:Int) - 1 - (k:Int)).toNat):=rN (by unfold cD at hp;omega) (by omega)
   refine Wc.gc 13 [1] ?_
   refine aN [10,9] [(9,16)] T.mixed [[0],[1],[2,10],[4],[6],[7,10],[9],[10],[11],[12]] ?_
   refine Gm.o1 3 ?_
   refine Wl.k 11 rfl (aDX _ _ (by unfold cD at hp;omega)) fun v1 G1 Ho1 hle1 hp=>?_
   obtain ⟨ro1,rfl,hro1,rfl⟩:=hp
   replace hk4:=hk4.up hle1
   refine Wl.o1 5 ?_
   refine Wl.k 11 rfl (aRG _ _ _ _ ‹_› (by unfold cD at hp;omega) (by omega)) fun v2 G2 Ho2 hle2 hp=>?_
   obtain ⟨rp2,rfl,hrp2,rfl⟩:=hp
   replace hro1:=hro1.up hle2
   replace hk4:=hk4.up hle2
   refine Wl.o1 8 ?_
   refine Wl.k 11 rfl (aDX _ _ (by unfold cD at hp;omega)) fun v3 G3 Ho3 hle3 hp=>?_
   obtain ⟨ro3,rfl,hro3,rfl⟩:=hp
   replace hrp2:=hrp2.up hle3
   replace hro1:=hro1.up hle3
   replace hk4:=hk4.up hle3
   refine Wl.o1 13 ?_
   refine Wl.k 11 rfl (aRG _ _ _ _ ‹_› (by unfold cD at hp;omega) (by omega)) fun v4 G4 Ho4 hle4 hp=>?_
   obtain ⟨rp4,rfl,hrp4,rfl⟩:=hp
   replace hro3:=hro3.up hle4
   replace hrp2:=hrp2.up hle4
   replace hro1:=hro1.up hle4
   replace hk4:=hk4.up hle4
   refine Wl.o1 14 ?_
   refine Wl.k 11 rfl (aRF _ _ _ _ _ hrp2 hrp4 s1 s2) fun v5 G5 Ho5 hle5 hp=>?_
   obtain ⟨rt5,rfl,hrt5,rfl⟩:=hp
   replace hrp4:=hrp4.up hle5
   replace hro3:=hro3.up hle5
   replace hrp2:=hrp2.up hle5
   replace hro1:=hro1.up hle5
   replace hk4:=hk4.up hle5
   refine Wl.o1 15 ?_
   refine Wl.lit (α:=IV) 11 [⟨_,_,_,_⟩] rfl T.sl186 T.el190 rfl rfl rfl rfl rfl fun b2=>?_
   refine Wl.o1 16 ?_
   refine Wl.ap (α:=IV) 9 T.sl186 T.el190 (Src.row 11 rfl) fun a1 c1 junk1 ho1=>?_
   refine aO ?_
   refine Gm.r [[17]] ?_
   refine Gm.fin ?_
   refine Ar.ga 7 [] ?_
   refine Ar.re 6 rfl (show _=Value.int .i64 ((k+1:Nat):Int) from rfl) ?_
   refine aH ((k+1,_,r++[rt5],(a1,c1,junk1))) ?_ ?_
   · refine ⟨by omega,Imm.le_trans hk2 (by repeat (first | assumption | refine Imm.le_trans ?_ ‹_›)),by rw [List.length_append,hk3];rfl,?_,ho1⟩
     have e:(dQ a b n).take (k+1)=(dQ a b n).take k++[a ^ (k:Int).toNat*b ^ ((n:Int) - 1 - (k:Int)).toNat]:=by
      rw [List.take_add_one]
      congr 1
      unfold dQ
      rw [List.getElem?_map,List.getElem?_range hke,Int.toNat_natCast,show ((n:Int) - 1 - (k:Int)).toNat=n - 1 - k by omega];rfl
     rw [e]
     exact hk4.snoc hrt5
   show n - (k+1)<n - k
   omega
 have hie:k=n:=by omega
 subst hie
 have e:(dQ a b k).take k=dQ a b k:=List.take_of_length_le (by unfold dQ;simp)
 rw [e] at hk4
 refine Wc.ga 21 [0] ?_
 refine Ar.freezeRow 9 rfl hk5 fun G8 hle8 hA8=>?_
 refine Ar.e1 ?_
 exact ⟨_,_,_,rfl,hA8,hk4.up hle8,hk5.le,rfl⟩
end
section
attribute [local irreducible] aB aD pb pw bL bK p2 fC dQ
def NRow (G:Imm) (s:SV) (zs:List Int):Prop:=∃ l:List IV,l.length=s.n∧s.n≤s.c∧Arr G s.a l∧Nums G l zs
theorem NRow.up {G G':Imm} {s:SV} {zs:List Int} (h:NRow G s zs) (hl:G.le G'):NRow G' s zs:=by
 obtain ⟨l,h1,h2,h3,h4⟩:=h
 exact ⟨l,h1,h2,h3.up hl,h4.up hl⟩
def NGrid (G:Imm) (l:List SV) (rs:List (List Int)):Prop:=l.length=rs.length∧∀ i:Nat,i<l.length→NRow G (l[i]?.getD default) (rs[i]?.getD [])
theorem NGrid.up {G G':Imm} {l:List SV} {rs:List (List Int)} (h:NGrid G l rs) (hl:G.le G'):NGrid G' l rs:=⟨h.1,fun i hi=>(h.2 i hi).up hl⟩
theorem NGrid.nil (G:Imm):NGrid G [] []:=⟨rfl,fun i hi=>by simp at hi⟩
theorem NGrid.snoc {G:Imm} {l:List SV} {rs:List (List Int)} (h:NGrid G l rs) {s:SV} {zs:List Int} (hs:NRow G s zs):NGrid G (l++[s]) (rs++[zs]):=by
 refine ⟨by rw [List.length_append,List.length_append,h.1];rfl,fun i hi=>?_⟩
 rw [List.length_append,List.length_singleton] at hi
 rcases Nat.lt_or_ge i l.length with h1 | h1
 · rw [List.getElem?_append_left h1,List.getElem?_append_left (by rw [←h.1];exact h1)];exact h.2 i h1
 have:i=l.length:=by omega
 subst this
 rw [List.getElem?_append_right (Nat.le_refl _),List.getElem?_append_right (by rw [h.1];exact Nat.le_refl _),Nat.sub_self,h.1,Nat.sub_self]
 exact hs
theorem c118 (G:Imm) (a:Option Addr) (c:Nat) (l:List R2) (ha:Arr G a l) (h1:l.length≤1048576) (hc:l.length≤c) (hr1:l.length≤15) (hr2:∀ i,i<l.length→okP (l[i]?.getD default)) :
 Does Tryz.prog 118 [.slice a l.length c] G [] (fun v G' Ho=>∃ (s:Option Addr) (r:List SV) (c':Nat),v=.slice s r.length c'∧Arr G' s r∧NGrid G' r (dD l)∧r.length≤c'∧Ho=[]):=by
 refine D0 Tryz.func118 Tryz.ntmps118 fun w=>?_
 refine bF 9 (Row 191 ([]:List SV) []) ?_
 refine Wc.gc 17 [] ?_
 refine cS (ι:=Nat×Imm×List SV×(Option Addr×Nat×List Value)) (fun (i,Gx,r,(o,d,j))=>([(4,.int .i64 (i:Int)),(3,.slice o r.length d),(2,.slice none 0 0),(0,.slice a (List.length l) c)],[(9,o.map (·.block),Row 191 r j)])) (fun (i,Gx,r,(o,d,j))=>Gx) (fun (i,Gx,r,(o,d,j))=>i≤l.length∧G.le Gx∧r.length=i∧NGrid Gx r ((dD l).take i)∧OwnA o d r j) (fun (i,Gx,r,(o,d,j))=>l.length - i) ((0,G,[],(none,0,[]))) (⟨Nat.zero_le _,Imm.le_refl _,rfl,by rw [List.take_zero];exact NGrid.nil _,OwnA.nil⟩) rfl ⟨rfl,rfl,rfl,rfl,trivial⟩ ⟨rfl,trivial⟩ fun ⟨i,Gx,r,(o,d,j)⟩=>fun hk=>?_
 obtain ⟨hi1,hi2,hi3,hi4,hi5⟩:=hk
 replace ha:=ha.up hi2
 rcases Nat.lt_or_ge i l.length with hil | hil
 · have hnear:cD (l[((i:Nat):Int).toNat]?.getD default).a (l[((i:Nat):Int).toNat]?.getD default).b:=(hr2 i hil).1
   refine Wc.gl 18 [1] ?_
   refine Wl.at (α:=R2) T.sl22 ?_
   refine Wl.le T.agg52 ?_
   refine aA 2 [] ?_
   refine Wl.k 10 rfl (c116 _ _ _ l.length hnear (by omega)) fun v1 G1 Ho1 hle1 hp=>?_
   obtain ⟨ps1,pr1,pc1,rfl,hpA1,hpB1,hpL1,rfl⟩:=hp
   replace ha:=ha.up hle1
   refine Wl.lit (α:=SV) 10 [⟨_,_,_⟩] rfl T.sl182 T.el191 rfl rfl rfl rfl rfl fun b1=>?_
   refine Wl.ap (α:=SV) 9 T.sl182 T.el191 (Src.row 10 rfl) fun a1 c1 junk1 ho1=>?_
   refine Wl.ga 9 [] ?_
   refine Ar.re 4 rfl (show _=Value.int .i64 ((i+1:Nat):Int) from rfl) ?_
   refine aH ((i+1,_,r++[⟨ps1,pr1.length,pc1⟩],(a1,c1,junk1))) ?_ ?_
   · refine ⟨by omega,Imm.le_trans hi2 ‹_›,by rw [List.length_append,hi3];rfl,?_,ho1⟩
     have e:(dD l).take (i+1)=(dD l).take i++[dQ (l[((i:Nat):Int).toNat]?.getD default).a (l[((i:Nat):Int).toNat]?.getD default).b l.length]:=by
      rw [List.take_add_one]
      congr 1
      unfold dD
      rw [List.getElem?_map,Int.toNat_natCast,List.getElem?_eq_getElem hil];rfl
     rw [e]
     exact NGrid.snoc (by first | assumption | exact hi4.up ‹_›) ⟨pr1,rfl,hpL1,hpA1,hpB1⟩
   show l.length - (i+1)<l.length - i
   omega
 have hie:i=l.length:=by omega
 subst hie
 have e:(dD l).take l.length=dD l:=List.take_of_length_le (by unfold dD;rw [List.length_map];exact Nat.le_refl _)
 rw [e] at hi4
 refine Wc.ga 22 [0] ?_
 refine Ar.freezeRow 9 rfl hi5 fun G8 hle8 hA8=>?_
 refine Ar.e1 ?_
 exact ⟨_,_,_,rfl,hA8,hi4.up hle8,hi5.le,rfl⟩
end
theorem aCA (G:Imm) (p:PV) (ac ao ga:Option Addr) (cc co gc:Nat) (gl:List SV) (gs:List (List Int)) (N:Nat) (hc:Arr G ac p.code) (ho:Arr G ao p.outs) (hga:Arr G ga gl) (hgg:Grid G gl gs) (hev:Even 4 N gs) (hN:N≤1048576) (hR:aP p=true) (hgi:(gl.length:Int)=p.ins) (hcl:p.code.length≤16384) (hf:bP p gs=none) :
 Does Tryz.prog 114 [.agg #[.int .i64 p.ins,.int .i64 p.regs,.slice ac p.code.length cc,.slice ao p.outs.length co],.slice ga gl.length gc] G [] (fun v G' Ho=>∃ sv bad,v=.tuple #[sv,.int .i64 bad,.slice none 0 0]∧0≤bad∧Ho=[]):=by
 refine (c114 G p ac ao ga cc co gc gl gs N hc ho hga hgg hev hN hR hgi hcl).mono fun v G' Ho _ ⟨sv,bad,ov,e,h1,h2,h3⟩=>?_
 obtain ⟨e1,e2⟩:=h1 hf
 subst e2
 exact ⟨sv,bad,e,e1,h3⟩
theorem sJ (G:Imm) (p:PV) (ac ao ga:Option Addr) (cc co gc:Nat) (gl:List SV) (gs:List (List Int)) (N:Nat) (hc:Arr G ac p.code) (ho:Arr G ao p.outs) (hga:Arr G ga gl) (hgg:Grid G gl gs) (hev:Even 4 N gs) (hN:N≤1048576) (hR:aP p=true) (hgi:(gl.length:Int)=p.ins) (hcl:p.code.length≤16384) (os:List (List Int)) (hf:bP p gs=some os) :
 Does Tryz.prog 114 [.agg #[.int .i64 p.ins,.int .i64 p.regs,.slice ac p.code.length cc,.slice ao p.outs.length co],.slice ga gl.length gc] G [] (fun v G' Ho=>∃ sv oa oc ol,v=.tuple #[sv,.int .i64 (-1),.slice oa ol.length oc]∧Arr G' oa ol∧Grid G' ol os∧Ho=[]):=by
 refine (c114 G p ac ao ga cc co gc gl gs N hc ho hga hgg hev hN hR hgi hcl).mono fun v G' Ho _ ⟨sv,bad,ov,e,h1,h2,h3⟩=>?_
 obtain ⟨e1,oa,oc,ol,e2,e3,e4⟩:=h2 os hf
 subst e1 e2
 exact ⟨sv,oa,oc,ol,e,e3,e4,h3⟩
theorem gZ {p:PV} {gs os:List (List Int)} (h:bP p gs=some os):os.length=p.outs.length:=by
 unfold bP at h
 obtain ⟨rs,h1,h2⟩:=Option.map_eq_some_iff.1 h
 subst h2
 unfold dY;rw [List.length_map]
theorem aMQ (G:Imm) (s t:SV) (xs ys:List Int) (hs:RowS G s xs) (ht:RowS G t ys) (m:Nat) (hm:m≤1073741824) (bx:Go.Sl.Below m xs) (by':Go.Sl.Below m ys) (h1:s.n≤1048576) (h2:t.n≤1048576) :
 Does Tryz.prog 121 [.slice s.a s.n s.c,.slice t.a t.n t.c] G [] (fun v G' Ho=>v=.bool (decide (xs=ys))∧G'=G∧Ho=[]):=by
 obtain ⟨sa,sn,sc⟩:=s
 obtain ⟨ta,tn,tc⟩:=t
 obtain ⟨l,hl,hc,hA,hN⟩:=hs
 obtain ⟨l',hl',hc',hA',hN'⟩:=ht
 simp only at hl hc hA h1 hl' hc' hA' h2
 subst hl hl'
 exact c121 G sa ta sc tc l l' xs ys hA hA' hN hN' m hm bx by' (by omega) (by omega)
theorem aCB {p:PV} {gs:List (List Int)} {N:Nat} (hR:aP p=true) (hev:Even 4 N gs) (h0:0<gs.length):∀ (k:Nat) (rs:List (List Int)),k≤p.code.length→iJ p gs k=some rs→Even (4+5*k) N rs∧rs.length=p.regs.toNat
 | 0,rs,_,h=>by
   cases h
   exact ⟨uO hev h0,nN p gs⟩
 | k+1,rs,hk,h=>by
   obtain ⟨f1,f2,f3,f4,f5,f6,f7,f8⟩:=fX hR
   unfold iJ at h
   obtain ⟨rs0,h1,h2⟩:=Option.bind_eq_some_iff.1 h
   obtain ⟨y,h3,h4⟩:=Option.map_eq_some_iff.1 h2
   obtain ⟨he,hl⟩:=aCB hR hev h0 k rs0 (by omega) h1
   subst h4
   have hmem:(p.code[((k:Nat):Int).toNat]?.getD default)∈p.code:=by
    rw [Int.toNat_natCast,List.getElem?_eq_getElem (by omega)];exact List.getElem_mem _
   obtain ⟨m1,m2,m3,m4,m5,m6,m7,m8⟩:=rI (f8 _ hmem)
   have hx:=aBW (i:=p.code[((k:Nat):Int).toNat]?.getD default) he (by omega) (fun h=>by have:=m4 h;omega) (fun h=>(m6 (by omega) (by omega) (by omega) (by omega)).2) h3
   refine ⟨?_,by rw [List.length_set];exact hl⟩
   rw [show 4+5*(k+1)=5+(4+5*k) by omega]
   exact aBX (he.mono (by omega)) hx _
theorem sK {p:PV} {gs os:List (List Int)} {N:Nat} (hR:aP p=true) (hev:Even 4 N gs) (h0:0<gs.length) (h:bP p gs=some os):Even (4+5*p.code.length) N os:=by
 obtain ⟨f1,f2,f3,f4,f5,f6,f7,f8⟩:=fX hR
 unfold bP at h
 obtain ⟨rs,h1,h2⟩:=Option.map_eq_some_iff.1 h
 obtain ⟨he,hl⟩:=aCB hR hev h0 _ rs (Nat.le_refl _) h1
 subst h2
 intro zs hz
 unfold dY at hz
 obtain ⟨r,hr,rfl⟩:=List.mem_map.1 hz
 exact he.at (k:=r) (by have:=f7 r hr;omega)
theorem oL {G:Imm} {l:List SV} {rs:List (List Int)} (h:NGrid G l rs):Grid G l rs:=⟨h.1,h.2⟩
theorem oM (l:List R2):(dD l).length=l.length:=by unfold dD;rw [List.length_map]
theorem rO {a b:Int} {n:Nat} (h:cD a b) (hn:n≤15):(dQ a b n).length=n∧Go.Sl.Below 4 (dQ a b n):=by
 refine ⟨by unfold dQ;rw [List.length_map,List.length_range],fun z hz=>?_⟩
 unfold dQ at hz
 obtain ⟨k,hk,rfl⟩:=List.mem_map.1 hz
 have hk:=List.mem_range.1 hk
 have e4:pw 4=18446744073709551616:=by unfold pw;decide
 have e:(a ^ k*b ^ (n - 1 - k)).natAbs≤16 ^ 15:=by
  rw [Int.natAbs_mul,Int.natAbs_pow,Int.natAbs_pow]
  refine Nat.le_trans (Nat.mul_le_mul (Nat.pow_le_pow_left (show a.natAbs≤16 by unfold cD at h;omega) k) (Nat.pow_le_pow_left (show b.natAbs≤16 by unfold cD at h;omega) _)) ?_
  rw [←Nat.pow_add]
  exact Nat.pow_le_pow_right (by omega) (by omega)
 have e3:(16:Nat) ^ 15=1152921504606846976:=by decide
 omega
theorem uQ {l:List R2} (h1:l.length≤15) (hr:∀ i,i<l.length→cD (l[i]?.getD default).a (l[i]?.getD default).b):Even 4 l.length (dD l):=fun zs hz=>by
 unfold dD at hz
 obtain ⟨p,hp,rfl⟩:=List.mem_map.1 hz
 obtain ⟨i,hi,rfl⟩:=List.mem_iff_getElem.1 hp
 have:=hr i hi
 rw [List.getElem?_eq_getElem hi] at this
 have this:cD l[i].a l[i].b:=this
 exact rO this h1
def cY (n j:Nat):List Int:=(List.replicate n 0).set j 1
theorem xT {G:Imm} {n j:Nat} {x:IV} (hx:Num G x 1) (hj:j<n):Nums G ((List.replicate n (default:IV)).set j x) (cY n j):=by
 unfold cY
 refine ⟨by rw [List.length_set,List.length_set,List.length_replicate,List.length_replicate],fun i hi=>?_⟩
 rw [List.length_set,List.length_replicate] at hi
 rw [List.getElem?_set,List.getElem?_set]
 by_cases h:j=i
 · subst h
   rw [if_pos rfl,if_pos rfl,if_pos (by rw [List.length_replicate];exact hj),if_pos (by rw [List.length_replicate];exact hj)]
   exact hx
 rw [if_neg h,if_neg h,List.getElem?_replicate,List.getElem?_replicate,if_pos hi,if_pos hi]
 exact Num.zero G
theorem oN (n j m:Nat) (hm:1≤m):Go.Sl.Below m (cY n j):=by
 have h1:pw 1=65536:=by unfold pw;decide
 refine Go.Sl.Below.mono (m:=1) (fun z hz=>?_) hm
 unfold cY at hz
 rcases List.mem_or_eq_of_mem_set hz with h | h
 · rw [List.eq_of_mem_replicate h,h1];decide
 rw [h,h1];decide
def dF (p:PV) (l:List R2):Prop:=aP p=true∧p.ins=l.length∧p.outs.length=l.length∧bP p (dD l)=some ((List.range l.length).map (cY l.length))
instance (p:PV) (l:List R2):Decidable (dF p l):=inferInstanceAs (Decidable (_∧_))
section
attribute [local irreducible] aB aD pb pw bL bK p2 dQ dD bP aP
theorem c119W (G:Imm) (n:Nat) (hn:n≤1048576) :
 Does Tryz.prog 119 [.int .i64 (n:Int)] G [] (fun v G' Ho=>∃ b,v=.slice (some ⟨b,0,none⟩) (List.replicate n (default:IV)).length n∧G'=G∧OwnA (some ⟨b,0,none⟩) n (List.replicate n (default:IV)) []∧Ho=[(0,some b,Row 190 (List.replicate n (default:IV)) [])]):=by
 refine D0 Tryz.func119 Tryz.ntmps119 fun w=>?_
 refine Wc.gl 8 [] ?_
 refine Wl.make (α:=IV) 0 rfl T.sl191 T.el190 rfl rfl (by omega) (by omega) fun b1=>?_
 refine Wl.ga 4 [] ?_
 have e:(List.replicate ((n:Int)).toNat (default:IV)).length=n:=by rw [List.length_replicate];omega
 refine aT (.inr rfl) (Ho:=[(0,some b1,Row 190 (List.replicate n (default:IV)) [])]) rfl (.tmp rfl) ⟨rfl,trivial⟩ ?_
 refine ⟨b1,by simp,rfl,.inr ⟨b1,rfl,by rw [List.length_replicate];rfl,by rw [List.length_replicate];exact Nat.le_refl _,by simp only [maxLen];omega⟩,rfl⟩
theorem c59 (G:Imm) (p:PV) (ac ao a:Option Addr) (cc co c:Nat) (l:List R2) (hc:Arr G ac p.code) (ho:Arr G ao p.outs) (ha:Arr G a l) (hcl:p.code.length≤16384) (hol:p.outs.length≤1099511627776) (hlc:l.length≤c) (hr0:1≤l.length) (hr1:l.length≤15) (hr2:∀ i,i<l.length→okP (l[i]?.getD default)) :
 Does Tryz.prog 59 [.agg #[.int .i64 p.ins,.int .i64 p.regs,.slice ac p.code.length cc,.slice ao p.outs.length co],.slice a l.length c] G [] (fun v G' Ho=>v=.bool (decide (dF p l))∧Ho=[]):=by
 have hr:∀ i,i<l.length→cD (l[i]?.getD default).a (l[i]?.getD default).b:=fun i hi=>(hr2 i hi).1
 have hev:=uQ hr1 hr
 refine D0 Tryz.func59 Tryz.ntmps59 fun w=>?_
 refine Wc.gl 2 [] ?_
 refine Wl.x 0 fun b1=>?_
 refine Wl.gl 6 [0] ?_
 refine Wl.k0 rfl (c57 _ p _ _ _ _ ‹_› ‹_› (by omega) (by omega)) ?_
 refine Wl.gl 7 [] ?_
 refine Wl.p (aW rfl) ?_
 refine aA 1 [] ?_
 apply aG 6 15 21 rfl
 intro hg1
 refine aA 11 [0] ?_
 exact Wl.b 6 0
 intro hg1
 refine aA 6 [] ?_
 exact Wl.b 6 0
 refine aA 1 [] ?_
 apply aG 7 22 29 rfl
 intro hg1
 refine aA 13 [0] ?_
 exact Wl.b 7 0
 intro hg1
 refine aA 7 [] ?_
 exact Wl.b 7 0
 refine Wl.gc 2 [] ?_
 refine Wc.i (fun hc1=>?_) fun hc1=>?_
 refine Wc.ga 7 [] ?_
 rotate_left
 refine Wc.gc 3 [] ?_
 refine aN [0] [(0,3)] T.mixed [[0,0],[1]] ?_
 refine Gm.o1 2 ?_
 refine Wl.k 1 rfl (c118 _ _ _ l ‹_› (by omega) hlc hr1 hr2) fun v1 G1 Ho1 hle1 hp=>?_
 obtain ⟨ws1,wr1,wc1,rfl,hwA1,hwB1,hwL1,rfl⟩:=hp
 replace hc:=hc.up hle1
 replace ho:=ho.up hle1
 replace ha:=ha.up hle1
 refine Wl.o1 3 ?_
 rotate_left
 · refine Ar.e1 ?_
   refine ⟨?_,rfl⟩
   congr 1
   refine (decide_eq_false fun h=>?_).symm
   obtain ⟨h1,h2,h3,_⟩:=h
   rcases hc1 with (h | h) | h
   · exact h h1
   · exact h h2
   omega
 have hR:aP p=true:=Classical.byContradiction fun h=>hc1 (.inl (.inl h))
 have hpi:p.ins=l.length:=Classical.byContradiction fun h=>hc1 (.inl (.inr h))
 have hpo:p.outs.length=l.length:=Classical.byContradiction fun h=>hc1 (.inr (by omega))
 have hwl:wr1.length=l.length:=hwB1.1.trans (oM l)
 cases hf:bP p (dD l) with
 | none =>
   refine Wl.k 1 rfl (aCA _ p _ _ _ _ _ _ _ (dD l) l.length ‹_› ‹_› ‹_› (oL hwB1) hev (by omega) hR (by omega) hcl hf) fun v2 G2 Ho2 hle2 hp=>?_
   obtain ⟨sv2,bad2,rfl,hbad2,rfl⟩:=hp
   replace hwA1:=hwA1.up hle2
   replace hc:=hc.up hle2
   replace ho:=ho.up hle2
   replace ha:=ha.up hle2
   refine aO ?_
   refine Gm.r [[4],[5],[6],[7],[8],[9],[10]] ?_
   refine Gm.fin ?_
   refine Ar.ga 16 [1] ?_
   refine Ar.e1 ?_
   refine ⟨?_,rfl⟩
   congr 1
   refine (decide_eq_false fun h=>?_).symm
   have h4:=h.2.2.2
   rw [hf] at h4
   cases h4
 | some os =>
   refine Wl.k 1 rfl (sJ _ p _ _ _ _ _ _ _ (dD l) l.length ‹_› ‹_› ‹_› (oL hwB1) hev (by omega) hR (by omega) hcl os hf) fun v2 G2 Ho2 hle2 hp=>?_
   obtain ⟨sv2,oa2,oc2,ol2,rfl,hoA2,hoG2,rfl⟩:=hp
   replace hwA1:=hwA1.up hle2
   replace hc:=hc.up hle2
   replace ho:=ho.up hle2
   replace ha:=ha.up hle2
   refine aO ?_
   refine Gm.r [[4],[5],[6],[7],[8],[9],[10]] ?_
   refine Gm.fin ?_
   refine Ar.gc 18 [0] ?_
   have hol2:ol2.length=l.length:=by rw [hoG2.1,gZ hf,hpo]
   have hose:=sK hR hev (by rw [oM];omega) hf
   refine Wc.lg (ι:=Nat×Imm) (fun (j,Gx)=>([(9,.int .i64 (j:Int)),(8,.slice oa2 (List.length ol2) oc2),(1,.slice a (List.length l) c)],[(0,some b1,.cells #[.int .i64 (PV.ins p),.int .i64 (PV.regs p),.slice ac (List.length (PV.code p)) cc,.slice ao (List.length (PV.outs p)) co] 26)])) (fun (j,Gx)=>Gx) (fun (j,Gx)=>j≤l.length∧G2.le Gx∧(∀ i,i<j→os[i]?.getD []=cY l.length i)) (fun (j,Gx)=>l.length - j) ((0,G2)) (⟨Nat.zero_le _,Imm.le_refl _,fun i h=>absurd h (by omega)⟩) fun ⟨j,Gx⟩=>fun hk=>?_
   obtain ⟨hj1,hj2,hj3⟩:=hk
   replace ha:=ha.up hj2
   replace hoA2:=hoA2.up hj2
   rcases Nat.lt_or_ge j l.length with hjl | hjl
   · refine Wc.gl 18 [1] ?_
     refine Wl.k 20 rfl (c119W _ l.length (by omega)) fun v3 G3 Ho3 hle3 hp=>?_
     obtain ⟨ub,rfl,rfl,huo,rfl⟩:=hp
     refine Wl.gl 7 [] ?_
     refine Wl.k 21 rfl (aDX _ 1 (by decide)) fun v4 G4 Ho4 hle4 hp=>?_
     obtain ⟨ro4,rfl,hro4,rfl⟩:=hp
     replace ha:=ha.up hle4
     replace hoA2:=hoA2.up hle4
     refine Wl.p (eR (α:=IV) T.sl191 rfl rfl huo (by rw [List.length_replicate];omega)) ?_
     refine bG (α:=IV) (z:=ro4) 20 T.size190 rfl rfl rfl huo (by rw [List.length_replicate];omega) rfl fun huo2=>?_
     refine Wl.gl 6 [] ?_
     refine Wl.at (α:=SV) T.sl182 ?_
     refine bM 0 T.one191 ?_
     refine aA 1 [] ?_
     have hRow:RowS G4 (ol2[((j:Nat):Int).toNat]?.getD default) (os[j]?.getD []):=(hoG2.up (Imm.le_trans hj2 hle4)).2 j (by omega)
     have hose2:(os[j]?.getD []).length=l.length∧Go.Sl.Below (4+5*p.code.length) (os[j]?.getD []):=hose.at (k:=(j:Int)) (by rw [gZ hf];omega)
     refine pH 30 rfl T.fn121 rfl (fun Gy hGy hgy=>aMQ Gy (ol2[((j:Nat):Int).toNat]?.getD default) ⟨some ⟨ub,0,none⟩,(List.replicate l.length (default:IV)).length,l.length⟩ (os[j]?.getD []) (cY l.length j) (hRow.up hGy)
      ⟨(List.replicate l.length (default:IV)).set j ro4,by rw [List.length_set],by rw [List.length_replicate];exact Nat.le_refl _,Arr.own hgy 20 rfl huo2,xT (hro4.up hGy) hjl⟩ (4+5*p.code.length) (by omega) hose2.2 (oN _ _ _ (by omega)) ?_ ?_) (fun v5 Gy5 G5 Ho5 hle5 hp=>?_)
     · obtain ⟨q,hq1,_,_,hq4⟩:=hRow
       rw [←hq1,hq4.1,hose2.1];omega
     · show (List.replicate l.length (default:IV)).length≤1048576
       rw [List.length_replicate];omega
     obtain ⟨rfl,rfl,rfl⟩:=hp
     refine Wl.p (aW rfl) ?_
     refine Wl.gc 2 [] ?_
     refine Wc.i (fun hc2=>?_) fun hc2=>?_
     refine Wc.ga 11 [] ?_
     rotate_left
     refine Wc.ga 8 [] ?_
     rotate_left
     · refine Ar.e1 ?_
       refine ⟨?_,rfl⟩
       congr 1
       refine (decide_eq_false fun h=>?_).symm
       have h4:=h.2.2.2
       rw [hf] at h4
       have h5:os=(List.range l.length).map (cY l.length):=Option.some.inj h4
       refine hc2 ?_
       rw [h5,List.getElem?_map,List.getElem?_range hjl];rfl
     refine Ar.re 9 rfl (show _=Value.int .i64 ((j+1:Nat):Int) from rfl) ?_
     refine aH ((j+1,_)) ?_ ?_
     · refine ⟨hjl,Imm.le_trans hj2 hle4,fun i hi=>?_⟩
       rcases Nat.lt_or_ge i j with h | h
       · exact hj3 i h
       have e:i=j:=by omega
       subst e
       exact Classical.byContradiction fun h=>hc2 h
     show l.length - (j+1)<l.length - j
     omega
   have hje:j=l.length:=by omega
   subst hje
   refine Wc.ga 21 [0] ?_
   refine Ar.e1 ?_
   refine ⟨?_,rfl⟩
   congr 1
   refine (decide_eq_true ⟨hR,hpi,hpo,?_⟩).symm
   rw [hf]
   congr 1
   have hosl:os.length=l.length:=by rw [gZ hf,hpo]
   apply List.ext_getElem
   · rw [hosl,List.length_map,List.length_range]
   intro i h1 h2
   have h3:=hj3 i (by omega)
   rw [List.getElem?_eq_getElem h1] at h3
   rw [List.getElem_map,List.getElem_range]
   exact h3
end
theorem c103 (G:Imm) (k:Int):Does Tryz.prog 103 [.int .i64 k] G [] (fun v G' Ho=>v=.bool (decide (1≤k∧k≤8))∧G'=G∧Ho=[]):=by
 refine D0 Tryz.func103 Tryz.ntmps103 fun w=>?_
 refine Wc.seq ?_
 refine Wc.region rfl ?_
 refine aA 1 [] ?_
 refine Wl.done ?_
 refine Ar.next ?_
 refine Wc.seq ?_
 refine Wc.region rfl ?_
 refine aA 3 [] ?_
 apply aM 3 5 8 rfl
 intro hg1
 refine aA 5 [] ?_
 exact Wl.b 3 0
 intro hg1
 refine aA 3 [] ?_
 exact Wl.b 3 0
 refine aA 1 [] ?_
 refine Wl.done ?_
 refine Ar.next ?_
 refine Wc.ret ?_
 refine Ar.e1 ?_
 exact ⟨rfl,rfl,rfl⟩
theorem c153 (G:Imm) (a:Option Addr) (c:Nat) (l:List R2) (ha:Arr G a l) (h1:l.length≤1048576):Does Tryz.prog 153 [.slice a l.length c,.func (.func 105) #[] #[]] G [] (fun v G' Ho=>∃ z:Int,v=.int .i64 z∧(0≤z↔∃ i,i<l.length∧((l[i]?.getD default).a=0∧(l[i]?.getD default).b=0))∧G'=G∧Ho=[]):=by
 refine D0 Tryz.func153 Tryz.ntmps153 fun w=>?_
 refine Wc.seq ?_
 refine Wc.region rfl ?_
 refine aA 1 [] ?_
 refine Wl.done ?_
 refine Ar.next ?_
 refine Wc.seq ?_
 refine Wc.seq ?_
 refine Wc.region rfl ?_
 refine aA 3 [] ?_
 refine Wl.done ?_
 refine Ar.next ?_
 refine Wc.block ?_
 refine Wc.lp (ι:=Nat) (fun j=>([(8,.int .i64 (j:Int)),(0,.slice a l.length c),(1,.func (.func 105) #[] #[]),(7,.int .i64 (l.length:Int))],[])) (fun j=>j≤l.length∧∀ i,i<j→¬((l[i]?.getD default).a=0∧(l[i]?.getD default).b=0)) (fun j=>l.length - j) (0) (⟨Nat.zero_le _,fun j' h=>absurd h (by omega)⟩) fun j=>fun hk=>?_
 obtain ⟨hj,hno⟩:=hk
 refine Wc.seq ?_
 refine Wc.region rfl ?_
 refine aA 1 [] ?_
 refine Wl.done ?_
 refine Ar.next ?_
 refine Wc.seq ?_
 refine Wc.i (fun hc1=>?_) fun hc1=>?_
 refine Wc.skip ?_
 refine Ar.next ?_
 refine Wc.seq ?_
 refine Wc.block ?_
 refine Wc.seq ?_
 refine Wc.region rfl ?_
 refine aA 2 [] ?_
 refine Wl.done ?_
 refine Ar.next ?_
 refine Wc.seq ?_
 refine Wc.region rfl ?_
 refine aA 3 [] ?_
 refine Wl.at (α:=R2) T.sl22 ?_
 refine Wl.le T.agg52 ?_
 rotate_left
 refine Wc.exit ?_
 refine jV ?_
 refine jV ?_
 refine aFD ?_
 refine Ar.next ?_
 refine Wc.seq ?_
 refine Wc.region rfl ?_
 refine aA 1 [] ?_
 refine Wl.done ?_
 refine Ar.next ?_
 refine Wc.ret ?_
 refine Ar.e1 ?_
 rotate_left
 · refine bN (fst:=[]) (cap:=[]) 2 rfl T.fn105 rfl rfl (c105 _ (l[((j:Nat):Int).toNat]?.getD default).a (l[((j:Nat):Int).toNat]?.getD default).b) (bO trivial) fun v1 G1 Ho1 hle1 hp=>?_
   obtain ⟨rfl,rfl,rfl⟩:=hp
   refine Wl.done ?_
   refine Ar.next ?_
   refine Wc.i (fun hc2=>?_) fun hc2=>?_
   refine Wc.seq ?_
   refine Wc.region rfl ?_
   refine aA 2 [] ?_
   refine Wl.done ?_
   refine Ar.next ?_
   refine Wc.ret ?_
   refine qX ?_
   refine jE ?_
   refine jE ?_
   refine qX ?_
   refine jE ?_
   refine Ar.e1 ?_
   rotate_left
   refine Wc.skip ?_
   refine lF ?_
   refine Ar.next ?_
   refine Wc.region rfl ?_
   refine aA 2 [] ?_
   refine Wl.done ?_
   rotate_left
   · exact ⟨(j:Int),rfl,⟨fun _=>⟨j,by omega,hc2⟩,fun _=>by omega⟩,rfl,rfl⟩
   refine Ar.re 8 rfl (show _=Value.int .i64 ((j+1:Nat):Int) from rfl) ?_
   refine aH (j+1) ?_ ?_
   · refine ⟨by omega,fun i' h2=>?_⟩
     rcases Nat.lt_or_ge i' j with h | h
     · exact hno i' h
     have e:i'=j:=by omega
     subst e;exact hc2
   omega
 exact ⟨-1,rfl,⟨fun h=>absurd h (by omega),fun ⟨i,hi,h⟩=>absurd h (hno i (by omega))⟩,rfl,rfl⟩
theorem c104 (G:Imm) (a:Option Addr) (c:Nat) (l:List R2) (ha:Arr G a l) (h1:l.length≤1048576):Does Tryz.prog 104 [.slice a l.length c,.func (.func 105) #[] #[]] G [] (fun v G' Ho=>∃ b:Bool,v=.bool b∧(b=true↔∃ i,i<l.length∧((l[i]?.getD default).a=0∧(l[i]?.getD default).b=0))∧G'=G∧Ho=[]):=by
 refine D0 Tryz.func104 Tryz.ntmps104 fun w=>?_
 refine Wc.seq ?_
 refine Wc.region rfl ?_
 refine aA 1 [] ?_
 refine Wl.done ?_
 refine Ar.next ?_
 refine Wc.seq ?_
 refine Wc.region rfl ?_
 refine aA 2 [] ?_
 refine Wl.k 0 rfl (c153 _ _ _ _ ‹_› (by omega)) fun v1 G1 Ho1 hle1 hp=>?_
 obtain ⟨tz1,rfl,htz1,rfl,rfl⟩:=hp
 refine aA 2 [] ?_
 refine Wl.done ?_
 refine Ar.next ?_
 refine Wc.ret ?_
 refine Ar.e1 ?_
 exact ⟨decide (0≤tz1),rfl,by rw [decide_eq_true_eq];exact htz1,rfl,rfl⟩
end Go.Proofs.YtfdcckcadfhpeaaGreatDoor
