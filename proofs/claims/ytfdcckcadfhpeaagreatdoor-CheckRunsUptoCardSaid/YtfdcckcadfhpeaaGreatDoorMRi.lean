/- uN of the proof (part 9): what the rows' text needs of the texts that lead to it. -/
import Derived.Test.YtfdcckcadfhpeaaGreatDoorMRh
set_option linter.unusedVariables false
set_option linter.unusedSimpArgs false
set_option linter.unusedSectionVars false
set_option maxHeartbeats 4000000
set_option maxRecDepth 100000
namespace Go.Proofs.YtfdcckcadfhpeaaGreatDoor
open Go Go.Sl
def vS:List Sl.Instr→List Int→Option (List Int)
 | [],rs=>some rs
 | i :: l,rs=>(wA i rs).bind fun x=>vS l (rs.set i.to.toNat x)
theorem IU (l:List Sl.Instr) (i:Sl.Instr) (rs:List Int):vS (l++[i]) rs=(vS l rs).bind fun r=>(wA i r).map fun x=>r.set i.to.toNat x:=by
 induction l generalizing rs with
 | nil =>
   show (wA i rs).bind (fun x=>some (rs.set i.to.toNat x))=(wA i rs).map _
   cases wA i rs <;> rfl
 | cons j l ih =>
   show (wA j rs).bind (fun x=>vS (l++[i]) (rs.set j.to.toNat x))=((wA j rs).bind fun x=>vS l (rs.set j.to.toNat x)).bind _
   cases wA j rs with
   | none=>rfl
   | some x=>exact ih _
theorem vV (p:PV) (zs:List Int):∀ k,k≤p.code.length→wS p zs k=vS (p.code.take k) zs
 | 0,_=>by rw [cM];rfl
 | k+1,hk=>by
   have htk:p.code.take (k+1)=p.code.take k++[p.code[(k:Int).toNat]?.getD default]:=by
    rw [cB,aE,aA sE];rfl
   rw [htk,IU,←vV p zs k sE]
   rfl
theorem Ja (r:List Int) (n k:Nat) (x:Int):(r.set n x)[k]?.getD 0=if n=k∧k<r.length then x else r[k]?.getD 0:=by
 rw [cC]
 by_cases h:n=k
 · subst h
   by_cases h2:n<r.length
   · rw [aF rfl,aF h2,aF ⟨rfl,h2⟩];rfl
   rw [aF rfl,aD h2,aD (fun h=>h2 h.2),bP sE]
 rw [aD h,aD (fun h2=>h h2.1)]
def Mg (op c:Int):Int:=if op=5∨op=6 then c else p2 c.toNat
def uZ (op c x:Int):Option Int:=
 if op=2 then some (-x) else if op=5∨op=7 then some (x*Mg op c) else if op=6∨op=8 then (if x % Mg op c=0 then some (x / Mg op c) else none) else some x
def uR (op c x q:Int):Prop:=if op=2 then q=-x else if op=5∨op=7 then q=x*Mg op c else if op=6∨op=8 then q*Mg op c=x else q=x
theorem cl (c x q:Int):uR 1 c x q↔q=x:=by unfold uR;simp
theorem ar (c x q:Int):uR 2 c x q↔q=-x:=by unfold uR;simp
theorem au (c x q:Int):uR 5 c x q↔q=x*c:=by unfold uR Mg;simp
theorem YB (c x q:Int):uR 6 c x q↔q*c=x:=by unfold uR Mg;simp
theorem iw (c x q:Int):uR 7 c x q↔q=x*p2 c.toNat:=by unfold uR Mg;simp
theorem ix (c x q:Int):uR 8 c x q↔q*p2 c.toNat=x:=by unfold uR Mg;simp
theorem XL {x y q:Int} (hy:y≠0):(if x % y=0 then some (x / y) else none)=some q↔q*y=x:=by
 by_cases h:x % y=0
 · rw [aF h,bY]
   have e:=Int.ediv_mul_cancel (Int.dvd_of_emod_eq_zero h)
   constructor
   · rintro rfl;exact e
   intro h2
   rw [←h2,Int.mul_ediv_cancel _ hy]
 rw [aD h]
 constructor
 · intro h2;cases h2
 intro h2
 exact absurd (by rw [←h2];exact Int.mul_emod_left q y) h
theorem Qa {op c x q:Int} (h:op=6∨op=8→Mg op c≠0):uZ op c x=some q↔uR op c x q:=by
 unfold uZ uR
 by_cases h2:op=2
 · rw [aF h2,aF h2,bY];exact eq_comm
 rw [aD h2,aD h2]
 by_cases h5:op=5∨op=7
 · rw [aF h5,aF h5,bY];exact eq_comm
 rw [aD h5,aD h5]
 by_cases h6:op=6∨op=8
 · rw [aF h6,aF h6];exact XL (h h6)
 rw [aD h6,aD h6,bY];exact eq_comm
theorem Aw {op c:Int} (h:sT op c=true):op=6∨op=8→Mg op c≠0:=by
 intro ho
 unfold Mg
 split
 · rename_i h5
   exact xS h h5
 have:=Oa c.toNat;omega
theorem Jb {c d:Int} (hc:0≤c) (hd:0≤d):p2 (c+d).toNat=p2 c.toNat*p2 d.toNat:=by
 rw [Int.toNat_add hc hd,WN]
theorem vF {a b c:Int} (hc:c≠0) (h:a*c=b*c):a=b:=oT hc h
theorem TP {f c s d o e:Int} (h:uV f c s d=(o,e,true)) (hc:sT f c=true) (hd:sT s d=true) (x q:Int):(∃ y,uR f c x y∧uR s d y q)↔uR o e x q:=by
 unfold uV at h
 by_cases f1:f=1
 · subst f1
   rw [aF rfl] at h
   cases h
   simp only [cl]
   exact ⟨fun ⟨y,h1,h2⟩=>h1▸h2,fun h2=>⟨x,rfl,h2⟩⟩
 rw [aD f1] at h
 by_cases f2:f=2
 · subst f2
   rw [aF rfl] at h
   simp only [ar]
   by_cases s1:s=1
   · subst s1
     rw [aF rfl] at h;cases h
     simp only [cl,ar]
     exact ⟨fun ⟨y,h1,h2⟩=>by rw [h2,h1],fun h2=>⟨_,rfl,h2⟩⟩
   rw [aD s1] at h
   by_cases s2:s=2
   · subst s2
     rw [aF rfl] at h;cases h
     simp only [cl,ar]
     exact ⟨fun ⟨y,h1,h2⟩=>by omega,fun h2=>⟨_,rfl,by omega⟩⟩
   rw [aD s2] at h
   by_cases s5:s=5∨s=6
   · rw [aF s5] at h
     rcases s5 with rfl | rfl
     · cases h
       simp only [au]
       exact ⟨fun ⟨y,h1,h2⟩=>by rw [h2,h1,fX,iT],fun h2=>⟨_,rfl,by rw [h2,fX,iT]⟩⟩
     cases h
     simp only [YB]
     exact ⟨fun ⟨y,h1,h2⟩=>by rw [iT,h2,h1,Int.neg_neg],fun h2=>⟨_,rfl,by rw [←h2,iT,Int.neg_neg]⟩⟩
   rw [aD s5] at h;cases h
 rw [aD f2] at h
 by_cases f5:f=5
 · subst f5
   rw [aF rfl] at h
   have hc0:=xS hc (.inl rfl)
   simp only [au]
   by_cases s2:s=2
   · subst s2
     rw [aF rfl] at h;cases h
     simp only [ar,au]
     exact ⟨fun ⟨y,h1,h2⟩=>by rw [h2,h1,iT],fun h2=>⟨_,rfl,by rw [h2,iT]⟩⟩
   rw [aD s2] at h
   by_cases s5:s=5∧-512≤c*d∧c*d≤512
   · rw [aF s5] at h
     obtain ⟨rfl,_⟩:=s5
     cases h
     simp only [au]
     exact ⟨fun ⟨y,h1,h2⟩=>by rw [h2,h1,cE],fun h2=>⟨_,rfl,by rw [h2,cE]⟩⟩
   rw [aD s5] at h
   by_cases s6:s=6∧c.tmod d=0
   · rw [aF s6] at h
     obtain ⟨rfl,hm⟩:=s6
     have hd0:=xS hd (.inr rfl)
     cases h
     have hcd:c.tdiv d*d=c:=kD (Int.dvd_of_tmod_eq_zero hm)
     simp only [au,YB]
     constructor
     · rintro ⟨y,h1,h2⟩
       refine vF hd0 ?_
       rw [h2,h1,cE,hcd]
     intro h2
     exact ⟨_,rfl,by rw [h2,cE,hcd]⟩
   rw [aD s6] at h
   by_cases s7:s=6∧d.tmod c=0
   · rw [aF s7] at h
     obtain ⟨rfl,hm⟩:=s7
     cases h
     have hcd:d.tdiv c*c=d:=kD (Int.dvd_of_tmod_eq_zero hm)
     simp only [YB]
     constructor
     · rintro ⟨y,h1,h2⟩
       refine vF hc0 ?_
       rw [cE,hcd,h2,h1]
     intro h2
     refine ⟨_,rfl,?_⟩
     rw [←h2,cE,hcd]
   rw [aD s7] at h;cases h
 rw [aD f5] at h
 by_cases f6:f=6
 · subst f6
   rw [aF rfl] at h
   simp only [YB]
   by_cases s2:s=2
   · subst s2
     rw [aF rfl] at h;cases h
     simp only [ar,YB]
     exact ⟨fun ⟨y,h1,h2⟩=>by rw [h2,Int.neg_mul_neg,h1],fun h2=>⟨-q,by rw [←h2,iT,fX],by omega⟩⟩
   rw [aD s2] at h
   by_cases s6:s=6∧-512≤c*d∧c*d≤512
   · rw [aF s6] at h
     obtain ⟨rfl,_⟩:=s6
     cases h
     simp only [YB]
     exact ⟨fun ⟨y,h1,h2⟩=>by rw [←h1,←h2,cE,cD d c],fun h2=>⟨q*d,by rw [←h2,cE,cD d c],rfl⟩⟩
   rw [aD s6] at h;cases h
 rw [aD f6] at h
 by_cases f7:f=7
 · subst f7
   rw [aF rfl] at h
   have hc1:=wV hc (.inl rfl)
   simp only [iw]
   by_cases s7:s=7∧c+d≤64
   · rw [aF s7] at h
     obtain ⟨rfl,_⟩:=s7
     have hd1:=wV hd (.inl rfl)
     cases h
     simp only [iw]
     rw [Jb sE sE]
     exact ⟨fun ⟨y,h1,h2⟩=>by rw [h2,h1,cE],fun h2=>⟨_,rfl,by rw [h2,cE]⟩⟩
   rw [aD s7] at h
   by_cases s8:s≠8
   · rw [aF s8] at h;cases h
   rw [aD s8] at h
   have s8':s=8:=sE
   subst s8'
   have hd1:=wV hd (.inr rfl)
   have pc:=Oa c.toNat
   have pd:=Oa d.toNat
   simp only [ix]
   by_cases e1:c=d
   · rw [aF e1] at h;cases h
     subst e1
     simp only [cl]
     exact ⟨fun ⟨y,h1,h2⟩=>vF (show p2 c.toNat≠0 by omega) (by rw [h2,h1]),fun h2=>⟨_,rfl,by rw [h2]⟩⟩
   rw [aD e1] at h
   by_cases e2:d<c
   · rw [aF e2] at h;cases h
     simp only [iw]
     have hp:p2 c.toNat=p2 (c - d).toNat*p2 d.toNat:=by
      rw [←Jb sE sE]
      congr 2;omega
     constructor
     · rintro ⟨y,h1,h2⟩
       refine vF (show p2 d.toNat≠0 by omega) ?_
       rw [h2,h1,cE,←hp]
     intro h2
     exact ⟨_,rfl,by rw [h2,cE,←hp]⟩
   rw [aD e2] at h;cases h
   simp only [ix]
   have hp:p2 d.toNat=p2 (d - c).toNat*p2 c.toNat:=by
    rw [←Jb sE sE]
    congr 2;omega
   constructor
   · rintro ⟨y,h1,h2⟩
     refine vF (show p2 c.toNat≠0 by omega) ?_
     rw [cE,←hp,h2,h1]
   intro h2
   exact ⟨_,rfl,by rw [←h2,cE,←hp]⟩
 rw [aD f7] at h
 by_cases f8:f=8
 · subst f8
   rw [aF rfl] at h
   have hc1:=wV hc (.inr rfl)
   by_cases s8:s=8∧c+d≤64
   · rw [aF s8] at h
     obtain ⟨rfl,_⟩:=s8
     have hd1:=wV hd (.inr rfl)
     cases h
     simp only [ix]
     rw [Jb sE sE]
     exact ⟨fun ⟨y,h1,h2⟩=>by rw [←h1,←h2,cE,cD (p2 d.toNat)],fun h2=>⟨q*p2 d.toNat,by rw [←h2,cE,cD (p2 d.toNat)],rfl⟩⟩
   rw [aD s8] at h;cases h
 rw [aD f8] at h;cases h
theorem Tl (i:Sl.Instr) (rs:List Int):wA (tM i) rs=wA i rs:=by
 obtain ⟨op,t,a,b,c⟩:=i
 unfold tM
 simp only
 by_cases h3:op=3
 · subst h3
   rw [aF rfl]
   by_cases hab:a=b
   · subst hab
     rw [aF rfl]
     have e2:p2 1=2:=by unfold p2;decide
     simp [wA,cst,e2]
     omega
   rw [aD hab]
 rw [aD h3]
 by_cases h5:op=5∨op=6
 · rw [aF h5]
   by_cases c1:c=1
   · subst c1
     rw [aF rfl]
     rcases h5 with rfl | rfl <;> simp [wA,cst]
   rw [aD c1]
   by_cases c2:c=-1
   · subst c2
     rw [aF rfl]
     rcases h5 with rfl | rfl
     · simp [wA,cst]
     simp [wA,cst]
   rw [aD c2]
   by_cases hp:vR c≠0
   · rw [aF hp]
     obtain ⟨m,m1,m2,m3,m4⟩:=XK hp
     have ht:p2 (vR c).toNat=c:=by rw [m4,aE,m3];rfl
     rcases h5 with rfl | rfl
     · rw [aF rfl]
       simp [wA,cst,ht]
     rw [aD (by decide)]
     simp [wA,cst,ht]
   rw [aD hp]
 rw [aD h5]
theorem Jc (i:Sl.Instr):(tM i).to=i.to:=by
 unfold tM
 repeat' split
 all_goals rfl
theorem Vy {i:Sl.Instr} (h:¬(i.op=3∨i.op=4)) (rs:List Int):wA i rs=uZ i.op i.c (rs[i.a.toNat]?.getD 0):=by
 unfold wA uZ
 have h3:¬i.op=3:=fun e=>h (.inl e)
 have h4:¬i.op=4:=fun e=>h (.inr e)
 simp only [h3,h4,jR]
 rfl
theorem TQ {f c s d:Int} (h:(uV f c s d).2.2=true):¬(f=3∨f=4):=by
 rintro (rfl | rfl) <;> simp [uV] at h
theorem TR {f c s d:Int} (hs:¬(s=3∨s=4)) (h:(uV f c s d).2.2=true):¬((uV f c s d).1=3∨(uV f c s d).1=4):=by
 unfold uV at h ⊢
 repeat' split
 all_goals first
  | (simp;done)
  | (intro h9;simp at h9;omega)
  | simp_all
theorem OG {a b:Sl.Instr} {rs:List Int} (hm:(uB a b).2=true) (ha:FG a) (hb:FG b) (ht:a.to.toNat<rs.length):vS [uB a b |>.1] rs=vS [a,b] rs:=by
 unfold uB at hm ⊢
 by_cases h:b.op=3∨b.op=4∨b.a≠a.to∨b.to≠a.to
 · rw [aF h] at hm;cases hm
 rw [aD h] at hm ⊢
 by_cases hk:(uV a.op a.c b.op b.c).2.2=true
 · rw [aF hk]
   have b34:¬(b.op=3∨b.op=4):=sE
   have a34:=TQ hk
   have o34:=TR b34 hk
   have hba:b.a=a.to:=sE
   have hbt:b.to=a.to:=sE
   have hok:sT (uV a.op a.c b.op b.c).1 (uV a.op a.c b.op b.c).2.1=true:=(Fa ha hb).resolve_right (by rw [hk];decide)
   have hsem:=fun x q=>TP (o:=(uV a.op a.c b.op b.c).1) (e:=(uV a.op a.c b.op b.c).2.1) (by rw [←hk]) ha hb x q
   generalize (uV a.op a.c b.op b.c).1=o at *
   generalize (uV a.op a.c b.op b.c).2.1=e at *
   show (wA (tM ⟨o,b.to,a.a,0,e⟩) rs).bind (fun x=>some (rs.set (tM ⟨o,b.to,a.a,0,e⟩).to.toNat x))=(wA a rs).bind fun x=>(wA b (rs.set a.to.toNat x)).bind fun y=>some ((rs.set a.to.toNat x).set b.to.toNat y)
   rw [Tl,Jc,Vy o34,Vy a34]
   simp only [Vy b34,hba,hbt]
   generalize rs[a.a.toNat]?.getD 0=x
   have hget:∀ y:Int,(rs.set a.to.toNat y)[a.to.toNat]?.getD 0=y:=fun y=>by rw [Ja,aF ⟨rfl,ht⟩]
   simp only [hget,List.set_set]
   have key:∀ q,uZ o e x=some q↔∃ y,uZ a.op a.c x=some y∧uZ b.op b.c y=some q:=fun q=>by
    rw [Qa (Aw hok),←hsem x q]
    constructor
    · rintro ⟨y,k1,k2⟩
      exact ⟨y,(Qa (Aw ha)).2 k1,(Qa (Aw hb)).2 k2⟩
    rintro ⟨y,k1,k2⟩
    exact ⟨y,(Qa (Aw ha)).1 k1,(Qa (Aw hb)).1 k2⟩
   cases h1:uZ o e x with
   | some q =>
     obtain ⟨y,k1,k2⟩:=(key q).1 h1
     rw [k1]
     simp only [eF,k2]
   | none =>
     cases h2:uZ a.op a.c x with
     | none=>rfl
     | some y =>
       cases h3:uZ b.op b.c y with
       | none=>simp only [eF,h3]
       | some q =>
         have:=(key q).2 ⟨y,h2,h3⟩
         rw [h1] at this;cases this
 rw [aD hk] at hm;cases hm
theorem AL:∀ (l:List Sl.Instr) (rs r:List Int),vS l rs=some r→r.length=rs.length
 | [],rs,r,h=>by cases h;rfl
 | i :: l,rs,r,h=>by
   unfold vS at h
   obtain ⟨x,hx,h⟩:=pM.1 h
   rw [AL l _ _ h,aG]
theorem xY (l m:List Sl.Instr) (rs:List Int):vS (l++m) rs=(vS l rs).bind (vS m):=by
 induction l generalizing rs with
 | nil=>rfl
 | cons i l ih =>
   show (wA i rs).bind (fun x=>vS (l++m) (rs.set i.to.toNat x))=((wA i rs).bind fun x=>vS l (rs.set i.to.toNat x)).bind (vS m)
   cases wA i rs with
   | none=>rfl
   | some x=>exact ih _
theorem OH {l:List Int} {k:Nat}:l.set k (l[k]?.getD 0)=l:=by
 apply gF
 intro j
 rw [cC]
 by_cases h:k=j
 · subst h
   rw [aF rfl]
   by_cases hk:k<l.length
   · rw [aF hk,aA hk];rfl
   rw [aD hk,bP sE]
 rw [aD h]
theorem AM {i:Sl.Instr} (h:Fz i=true) (rs:List Int):vS [i] rs=some rs:=by
 unfold Fz at h
 rw [aS] at h
 show (wA i rs).bind (fun x=>some (rs.set i.to.toNat x))=some rs
 have e:wA i rs=some (rs[i.a.toNat]?.getD 0):=by
  unfold wA
  simp [h.1]
 rw [e,eF,h.2,OH]
def Jd (n:Nat) (i:Sl.Instr):Prop:=FG i∧i.to.toNat<n
theorem DC {n:Nat} {i:Sl.Instr} (h:Jd n i):Jd n (tM i):=⟨zH h.1,by rw [Jc];exact h.2⟩
theorem TS {a b:Sl.Instr} (h:(uB a b).2=true):(uB a b).1.to=a.to:=by
 unfold uB at h ⊢
 by_cases h1:b.op=3∨b.op=4∨b.a≠a.to∨b.to≠a.to
 · rw [aF h1] at h;cases h
 rw [aD h1] at h ⊢
 by_cases hk:(uV a.op a.c b.op b.c).2.2=true
 · rw [aF hk]
   show (tM _).to=_
   rw [Jc]
   show b.to=a.to
   omega
 rw [aD hk] at h;cases h
theorem Tm {n:Nat} {a b:Sl.Instr} (ha:Jd n a) (hb:Jd n b) (h:(uB a b).2=true):Jd n (uB a b).1:=⟨Iz ha.1 hb.1 h,by rw [TS h];exact ha.2⟩
theorem AN {n:Nat}:∀ (s:List Sl.Instr) (b:Sl.Instr) (rs:List Int),rs.length=n→(∀ i∈s,Jd n i)→Jd n b→vS (xD s b).reverse rs=vS (s.reverse++[b]) rs
 | [],b,rs,hn,hs,hb=>by
   unfold xD
   by_cases hi:Fz b=true
   · rw [aF hi]
     exact (AM hi rs).symm
   · rw [aD hi];rfl
 | a :: s,b,rs,hn,hs,hb=>by
   unfold xD
   by_cases hi:Fz b=true
   · rw [aF hi,xY]
     cases h:vS (a :: s).reverse rs with
     | none=>rfl
     | some r=>exact (AM hi r).symm
   rw [aD hi]
   by_cases hm:(uB a b).2=true
   · rw [aF hm,AN s _ rs hn (fun i h=>hs i (by simp [h])) (Tm (hs a tR) hb hm)]
     rw [List.reverse_cons,bA,xY,xY]
     cases h:vS s.reverse rs with
     | none=>rfl
     | some r =>
       rw [eF,eF]
       exact OG hm (hs a tR).1 hb.1 (by rw [AL _ _ _ h,hn];exact (hs a tR).2)
   rw [aD hm,List.reverse_cons]
theorem IW {n:Nat} (s:List Sl.Instr) (b:Sl.Instr) (hs:∀ i∈s,Jd n i) (hb:Jd n b):∀ i∈xD s b,Jd n i:=
 Px (q:=Jd n) (fun a b ha hb h=>Tm ha hb h) s b hs hb
theorem Je {n:Nat}:∀ (l s:List Sl.Instr) (rs:List Int),rs.length=n→(∀ i∈l,Jd n i)→(∀ i∈s,Jd n i)→vS (l.foldl (fun s i=>xD s (tM i)) s).reverse rs=vS (s.reverse++l) rs
 | [],s,rs,hn,hl,hs=>by rw [bR];rfl
 | i :: l,s,rs,hn,hl,hs=>by
   have hti:=DC (hl i tR)
   rw [List.foldl_cons,Je l _ rs hn (fun j h=>hl j (by simp [h])) (IW s _ hs hti)]
   rw [xY,AN s _ rs hn hs hti,xY,xY]
   cases h:vS s.reverse rs with
   | none=>rfl
   | some r =>
     rw [eF,eF]
     show (vS [tM i] r).bind (vS l)=vS (i :: l) r
     show ((wA (tM i) r).bind fun x=>some (r.set (tM i).to.toNat x)).bind (vS l)=(wA i r).bind fun x=>vS l (r.set i.to.toNat x)
     rw [Tl,Jc]
     cases wA i r <;> rfl
theorem OI {p:PV} {zs:List Int} (hR:sH p=true) (hz:(zs.length:Int)=p.ins):xH (zI p) zs=xH p zs:=by
 obtain ⟨f1,f2,f3,f4,f5,f6,f7,f8⟩:=sK hR
 have hl:(tZ p zs).length=p.regs.toNat:=by unfold tZ;rw [aC,aI];omega
 unfold xH
 rw [vV (zI p) _ _ (aH _),vV p _ _ (aH _),bC,bC]
 have ht:∀ i∈p.code,Jd p.regs.toNat i:=fun i hi=>by
  have hm:=Ej hR i hi
  have:=(tE hm).2.1
  exact ⟨Av hm,by omega⟩
 have h:=Je p.code [] (tZ p zs) hl ht (fun i h=>by cases h)
 rw [List.reverse_nil,fW] at h
 show (vS (Pr p.code).reverse (tZ p zs)).map (vK p)=_
 unfold Pr
 rw [h]
theorem iy (G:Imm) (a:Option Addr) (n c:Nat):Does Tryz.prog 200 [.slice a n c] G [] (fun v G' Ho=>∃ b,v=.func (.func 234) #[] #[.pointer (some ⟨b,0,none⟩)]∧Ho=[]∧G' b=some (.cells [.slice a n c].toArray 23)):=by
 refine D0 Tryz.func200 Tryz.ntmps200 fun w=>?_
 refine aJ 2 [] ?_
 refine dQ 0 fun b1=>?_
 refine aL 5 [] ?_
 refine aO (gT rfl rfl) ?_
 refine aR 4 [] ?_
 refine rD 0 rfl fun G' hle hb=>?_
 refine cP ?_
 exact ⟨_,rfl,rfl,hb⟩
theorem iz (G:Imm) (a:Option Addr) (c:Nat) (xs:List Sl.Instr) (b:Nat) (hx:Arr G a xs) (hl:xs.length≤1099511627776) (hb:G b=some (.cells [.slice a xs.length c].toArray 23)) :
 Hq Tryz.prog 234 [.pointer (some ⟨b,0,none⟩)] G aj (Pk xs):=by
 intro ι J inv stop ly i0 hi0 hY
 have hcell:G.cell b 0=some (.slice a xs.length c):=AD hb 0 rfl
 refine D0 Tryz.func234 Tryz.ntmps234 fun w=>?_
 refine Mi 1000 ?_
 refine aJ 2 [] ?_
 refine aO (cJ T.one23 rfl sF) ?_
 refine aZ 6 [] ?_
 refine Xn (ι:=Int×ι) 1000 (fun (m,s)=>([(3,.int .i64 m),(0,.func (Go.Fn.yield ly) #[] #[]),(1,.pointer (some (Addr.mk b 0 none)))],[])) (fun (m,s)=>J s) (fun (m,s)=>-1≤m∧m<(xs.length:Int)∧inv ((xs.length:Int) - 1 - m).toNat s) (fun (m,s)=>(m+1).toNat) (((xs.length:Int) - 1,i0)) (⟨by omega,by omega,by rw [show ((xs.length:Int) - 1 - ((xs.length:Int) - 1)).toNat=0 by omega];exact hi0⟩) ⟨rfl,rfl,rfl,trivial⟩ trivial yY fun ⟨m,s⟩=>fun hk=>?_
 obtain ⟨hm1,hm2,hinv⟩:=hk
 refine bJ 7 [] ?_
 refine cT (fun hc1=>?_) fun hc1=>?_
 refine aJ 8 [] ?_
 refine aO (cJ T.one23 rfl sF) ?_
 refine aB 1 [] ?_
 refine fP (α:=Instr) T.sl23 ?_
 refine lB T.agg91 ?_
 rotate_left
 refine bE 4 [] ?_
 rotate_left
 · have hbx:(Pk xs)[((xs.length:Int) - 1 - m).toNat]?=some (m,xs[m.toNat]?.getD default):=by
    rw [Kx xs sE]
    have e1:xs.length - 1 - ((xs.length:Int) - 1 - m).toNat=m.toNat:=sE
    rw [e1]
    have e2:((m.toNat:Nat):Int)=m:=sE
    rw [e2]
   refine Jv (A:=[]) 1000 rfl rfl rfl trivial yY rfl (hY ((xs.length:Int) - 1 - m).toNat _ s hbx hinv) fun vy Gy Hy hly hp=>?_
   obtain ⟨rfl,s',rfl,hp⟩:=hp
   rcases hp with ⟨rfl,hinv'⟩ | ⟨rfl,hst⟩
   · refine aR 12 [0] ?_
     refine GM ((m - 1,s')) ?_ ?_ ⟨rfl,rfl,rfl,trivial⟩ trivial yY
     · refine ⟨by omega,by omega,?_⟩
       rw [show ((xs.length:Int) - 1 - (m - 1)).toNat=((xs.length:Int) - 1 - m).toNat+1 by omega]
       exact hinv'
     show (m - 1+1).toNat<(m+1).toNat
     omega
   refine aR 9 [1] ?_
   refine pE (k:=1000) (.inr rfl) rfl yY ⟨rfl,s',rfl,.inr hst⟩
 have hm:m=-1:=sE
 subst hm
 refine pE (k:=1000) (.inl rfl) rfl yY ⟨rfl,s,rfl,.inl ?_⟩
 rw [Cg]
 rw [show ((xs.length:Int) - 1 - -1).toNat=xs.length by omega] at hinv
 exact hinv
theorem aw (G:Imm) (p:PV) (ac ao:Option Addr) (cc co:Nat) :
 Does Tryz.prog 152 [.agg #[.int .i64 p.ins,.int .i64 p.regs,.slice ac p.code.length cc,.slice ao p.outs.length co]] G [] (fun v G' Ho =>
  ∃ b,v=.func (.func 199) #[] #[.pointer (some ⟨b,0,none⟩)]∧Ho=[]∧G' b=some (.cells [.int .i64 p.ins,.int .i64 p.regs,.slice ac p.code.length cc,.slice ao p.outs.length co].toArray 26)):=by
 refine D0 Tryz.func152 Tryz.ntmps152 fun w=>?_
 refine aJ 2 [] ?_
 refine dQ 0 fun b1=>?_
 refine aL 5 [] ?_
 refine aO (gT rfl rfl) ?_
 refine aR 4 [] ?_
 refine rD 0 rfl fun G' hle hb=>?_
 refine cP ?_
 exact ⟨_,rfl,rfl,hb⟩
theorem VN (G:Imm) (p:PV) (ac ao:Option Addr) (cc co:Nat) (b:Nat) (hc:Arr G ac p.code) (ho:Arr G ao p.outs) (h1:p.code.length≤1099511627776) (h2:p.outs.length≤1099511627776)
 (hb:G b=some (.cells [.int .i64 p.ins,.int .i64 p.regs,.slice ac p.code.length cc,.slice ao p.outs.length co].toArray 26)) (hR:sH p=true) :
 Hq Tryz.prog 199 [.pointer (some ⟨b,0,none⟩)] G aj (Pk p.code):=by
 intro ι J inv stop ly i0 hi0 hY
 have hrow:=FD hb
 have hcode:=AD hb 2 rfl
 refine nS Tryz.func199 rfl Tryz.ntmps199 rfl fun w=>?_
 refine Mi 1000 ?_
 refine aJ 2 [] ?_
 refine dQ 0 fun b1=>?_
 refine aL 5 [] ?_
 refine aO (gZ T.agg26 rfl sF rfl) ?_
 refine cI rfl (ak _ _ _ _ _ _ sF sF sE sE) ?_
 refine aO (fF rfl) ?_
 refine aZ 2 [] ?_
 refine cT (fun hc1=>?_) fun hc1=>?_
 refine bE 2 [] ?_
 refine nT (.inr rfl) ?_
 rotate_left
 refine aJ 5 [] ?_
 refine aO (cJ T.one23 rfl sF) ?_
 refine bX 1 rfl (iy _ _ _ _) fun v1 G1 Ho1 hle1 hp=>?_
 obtain ⟨bk1,rfl,rfl,hbk1⟩:=hp
 replace hc:=hc.up hle1
 replace ho:=ho.up hle1
 refine aZ 3 [] ?_
 rotate_left
 · exact absurd hR hc1
 refine pS (ι:=ι) 900 901 (fun s=>[(0,some b1,.cells #[.func (Go.Fn.yield ly) #[] #[]] 272)]++Hp.shift 1000 (J s)) (fun k s=>inv k s) (fun c s=>c=Code.ret∧stop s) (i0) rfl T.fn234 (fun _=>rfl) rfl (iz _ ac cc p.code bk1 hc h1 hbk1) (hi0) (Gd ⟨rfl,trivial⟩ yY) ⟨rfl,fun _=>Xp rfl rfl⟩ (fun k x s l dd q w0 hx hi=>?_) (fun s dd hi=>?_) fun s dd c hi=>?_
 · refine aJ 6 [] ?_
   refine aN 902 rfl T.zero91 fun b2=>?_
   refine aR 2 [902] ?_
   refine qZ 900 rfl ?_
   refine aJ 6 [0,902] ?_
   refine Jv (A:=[(900,Option.some l,Go.Sl.lrec q Go.LoopState.busy Option.none),(902,Option.some b2,Go.Obj.cells (List.toArray (Go.Sl.Cells.enc (Prod.snd x))) 91),(901,Option.some dd,Go.Obj.deferred (Option.some [])),(0,Option.some b1,Go.Obj.cells #[Go.Value.func (Go.Fn.yield ly) #[] #[]] 272)]) 1000 rfl rfl rfl ⟨rfl,rfl,rfl,rfl,trivial⟩ yY rfl ((hY k x s hx hi).up hle1) fun vy Gy Hy hly hp=>?_
   obtain ⟨rfl,s',rfl,hp⟩:=hp
   rcases hp with ⟨rfl,hinv'⟩ | ⟨rfl,hst⟩
   · refine aR 6 [0] ?_
     refine kQ none (.inl ⟨rfl,rfl⟩) 900 rfl ⟨rfl,(s',none),rfl,.inl ⟨rfl,rfl,?_⟩⟩ (qT rfl (qT rfl (Gd ⟨rfl,trivial⟩ yY)))
     exact hinv'
   refine aR 6 [1] ?_
   refine kQ (some (.ret)) (.inr (.inl ⟨rfl,rfl⟩)) 900 rfl ⟨rfl,(s',some (.ret)),rfl,.inr ⟨rfl,_,rfl,?_⟩⟩ (qT rfl (qT rfl (Gd ⟨rfl,trivial⟩ yY)))
   exact ⟨rfl,hst⟩
 · refine dX 1 [] ?_
   refine nJ (.inl rfl) 901 rfl ?_
   refine nT (.inr rfl) ?_
   refine qD ?_
   refine pE (k:=1000) (.inr rfl) rfl yY ⟨rfl,s,rfl,.inl hi⟩
 obtain ⟨rfl,hst⟩:=hi
 refine bE 2 [] ?_
 refine nJ (.inr rfl) 901 rfl ?_
 refine nT (.inr rfl) ?_
 refine qD ?_
 refine pE (k:=1000) (.inr rfl) rfl yY ⟨rfl,s,rfl,.inr hst⟩
theorem ja (G:Imm) (p:PV) (ac ao:Option Addr) (cc co:Nat) (hc:Arr G ac p.code) (ho:Arr G ao p.outs) (h1:p.code.length≤1099511627776) (h2:p.outs.length≤1099511627776) (hR:sH p=true) :
 Does Tryz.prog 101 [.agg #[.int .i64 p.ins,.int .i64 p.regs,.slice ac p.code.length cc,.slice ao p.outs.length co]] G [] (fun v G' Ho=>∃ b c j,v=.slice b (sL p).length c∧OwnA b c (sL p) j∧Ho=[(0,b.map (·.block),Row 4 (sL p) j)]∧G'=G):=by
 obtain ⟨r1,r2,r3,r4,r5,r6,r7,r8⟩:=sK hR
 refine nS Tryz.func101 rfl Tryz.ntmps101 rfl fun w=>?_
 refine aJ 2 [] ?_
 refine dQ 0 fun b1=>?_
 refine aZ 3 [] ?_
 refine mH ?_
 refine aJ 4 [0] ?_
 refine fV (α:=Bool) 1 rfl T.sl138 T.el4 rfl rfl sE sE fun b2=>?_
 refine aN 2 rfl T.zero138 fun b3=>?_
 refine aZ 13 [2,0] ?_
 generalize hR0:List.replicate p.regs.toNat (default:Bool)=R0 at *
 have hR0l:(R0.length:Int)=p.regs:=by rw [←hR0,aI];omega
 refine gY (ι:=Nat×List Bool) (fun (k,xs)=>([(17,.int .i64 (k:Int)),(16,.int .i64 (↑p.outs.length:Int)),(15,.slice ao p.outs.length co),(3,.pointer (some (Addr.mk b3 0 none))),(2,.slice none 0 0),(1,.pointer (some ⟨b1,0,none⟩))],[(2,some b3,.cells #[.slice (some ⟨b2,0,none⟩) xs.length R0.length] 138),(1,some b2,Row 4 xs []),(0,some b1,.cells #[.int .i64 p.ins,.int .i64 p.regs,.slice ac p.code.length cc,.slice ao p.outs.length co] 26)])) (fun (k,xs)=>k≤p.outs.length∧xs=uU R0 (p.outs.take k)∧OwnA (some ⟨b2,0,none⟩) R0.length xs []) (fun (k,xs)=>p.outs.length - k) ((0,R0)) (⟨aM _,rfl,fM Nc⟩) fun ⟨k,xs⟩=>fun hk=>?_
 obtain ⟨hk1,hxs,hox⟩:=hk
 have hxl:(xs.length:Int)=p.regs:=by rw [hxs,wU];exact hR0l
 rcases aK k p.outs.length with hlt | hge
 · have hr:0≤p.outs[(k:Int).toNat]?.getD default∧p.outs[(k:Int).toNat]?.getD default<xs.length:=by
    rw [hxl];refine r7 _ ?_
    rw [aE,aA hlt];simp
   refine aJ 13 [1] ?_
   refine fP (α:=Int) T.sl24 ?_
   refine iY 0 T.one3 ?_
   refine aL 6 [2] ?_
   refine gX (α:=Bool) T.sl138 ?_
   refine cU (z:=_) 1 T.size4 rfl rfl rfl sF sE rfl fun ho1=>?_
   refine aR 7 [] ?_
   refine fY 2 (.cells #[.slice (some ⟨b2,0,none⟩) (xs.set (p.outs[(k:Int).toNat]?.getD default).toNat true).length R0.length] 138) rfl Da ?_
   refine cL ((k+1,_)) ?_ ?_
   · exact ⟨by omega,by rw [Bj _ _ hlt,hxs],ho1⟩
   show p.outs.length - (k+1)<p.outs.length - k
   omega
 have hk:k=p.outs.length:=sE
 subst hk
 rw [bC] at hxs
 clear hk1 hge
 refine aJ 17 [0,0] ?_
 refine fV (α:=Bool) 3 rfl T.sl138 T.el4 rfl rfl sE sE fun b4=>?_
 refine aN 4 rfl T.zero138 fun b5=>?_
 refine aL 10 [4,0] ?_
 refine bX 5 rfl (aw _ _ _ _ _ _) fun v1 G1 Ho1 hle1 hp=>?_
 obtain ⟨bb1,rfl,rfl,hbb1⟩:=hp
 replace hc:=hc.up hle1
 replace ho:=ho.up hle1
 refine aZ 3 [] ?_
 generalize hS0:List.replicate ((p.code.length:Int)).toNat (default:Bool)=S0 at *
 have hS0l:S0.length=p.code.length:=by rw [←hS0,aI];omega
 refine pS (ι:=List Bool×List Bool) 900 901 (fun (A,O)=>[(4,some b5,.cells #[.slice (some ⟨b4,0,none⟩) O.length S0.length] 138),(3,some b4,Row 4 O []),(2,some b3,.cells #[.slice (some ⟨b2,0,none⟩) A.length R0.length] 138),(1,some b2,Row 4 A []),(0,some b1,.cells #[.int .i64 p.ins,.int .i64 p.regs,.slice ac p.code.length cc,.slice ao p.outs.length co] 26)]) (fun k (A,O)=>(A,O)=yT p k∧OwnA (some ⟨b2,0,none⟩) R0.length A []∧OwnA (some ⟨b4,0,none⟩) S0.length O []) (fun c (A,O)=>False) ((xs,S0)) rfl T.fn199 (fun _=>rfl) rfl (VN _ p _ _ _ _ _ hc ho sE sE hbb1 hR) (⟨by rw [hxs,←hR0,←hS0];rfl,hox,fM Nc⟩) (oU ⟨rfl,rfl,rfl,rfl,rfl,trivial⟩) ⟨rfl,fun _=>rfl⟩ (fun k x ⟨A,O⟩ l dd q w0 hx hi=>?_) (fun ⟨A,O⟩ dd hi=>?_) fun ⟨A,O⟩ dd c hi=>?_
 · obtain ⟨hn,hoA,hoO⟩:=hi
   have hkl:k<p.code.length:=by have:=(bZ.1 hx).1;rw [Cg] at this;exact this
   have hxe:x=(((p.code.length - 1 - k:Nat):Int),p.code[p.code.length - 1 - k]?.getD default):=by rw [Kx _ hkl] at hx;exact (jD hx).symm
   have hx1:x.1=((p.code.length - 1 - k:Nat):Int):=by rw [hxe]
   have hx2:x.2=p.code[p.code.length - 1 - k]?.getD default:=by rw [hxe]
   clear hxe
   have hm:sP x.2 p.regs=true:=by
    rw [hx2];refine r8 _ ?_
    rw [aA sE,dK];exact bI _
   have hAl:(A.length:Int)=p.regs:=by have:=(vY p k).1;rw [←hn] at this;show (A.length:Int)=_;rw [show A.length=p.regs.toNat from this];omega
   have hOl:O.length=p.code.length:=by have:=(vY p k).2;rw [←hn] at this;exact this
   have hto:0≤x.2.to∧x.2.to<A.length:=by rw [hAl];rw [tB] at hm;exact ⟨hm.1.2.2.1,hm.1.2.2.2.1⟩
   have hx1b:0≤x.1∧x.1<O.length:=by rw [hx1,hOl];omega
   have hask:∀ r∈sS x.2,0≤r∧r<A.length:=by rw [hAl];exact Mx hm
   have hst:yT p (k+1)=xJ (A,O) x.1 x.2:=by rw [hx1,hx2,hn];rfl
   have hasks:(sS x.2).length≤2:=by unfold sS;split <;> (try split) <;> simp
   refine aJ 6 [] ?_
   refine aN 902 rfl T.zero91 fun b6=>?_
   refine aR 2 [902] ?_
   refine qZ 900 rfl ?_
   refine aJ 7 [2,902] ?_
   refine gX (α:=Bool) T.sl138 ?_
   refine mS 1 0 T.one4 ?_
   refine aZ 3 [] ?_
   refine kZ rfl (fun hc1=>?_) fun hc1=>?_
   refine bE 3 [] ?_
   rotate_left
   refine aJ 6 [4] ?_
   refine gX (α:=Bool) T.sl138 ?_
   refine cU (z:=_) 3 T.size4 rfl rfl rfl sF sE rfl fun ho1=>?_
   refine aL 7 [2,902] ?_
   refine gX (α:=Bool) T.sl138 ?_
   refine cU (z:=_) 1 T.size4 rfl rfl rfl sF sE rfl fun ho2=>?_
   refine aL 5 [902] ?_
   refine bX 903 rfl (HF _ _) fun v2 G2 Ho2 hle2 hp=>?_
   obtain ⟨ad2,cd2,junk2,rfl,hoa2,rfl,rfl⟩:=hp
   refine aZ 5 [] ?_
   rotate_left
   · refine kQ none (.inl ⟨rfl,rfl⟩) 900 rfl ⟨rfl,((A,O),none),rfl,.inl ⟨rfl,rfl,?_⟩⟩ (oU ⟨rfl,rfl,rfl,rfl,rfl,rfl,rfl,trivial⟩)
     refine ⟨?_,hoA,hoO⟩
     rw [hst];unfold xJ
     rw [aD (by simpa using hc1)]
   refine pR 2 (.cells #[.slice (some ⟨b2,0,none⟩) (A.set x.2.to.toNat false).length R0.length] 138) rfl Da (pR 4 (.cells #[.slice (some ⟨b4,0,none⟩) (O.set x.1.toNat true).length S0.length] 138) rfl Da ?_)
   refine gY (ι:=Nat×List Bool) (fun (m,B)=>([(49,.int .i64 (m:Int)),(48,.int .i64 (↑(List.length (sS (Prod.snd x))):Int)),(47,.slice ad2 (List.length (sS (Prod.snd x))) cd2),(3,.pointer (some (Addr.mk b3 0 none)))],[(2,some b3,.cells #[.slice (some ⟨b2,0,none⟩) B.length R0.length] 138),(1,some b2,Row 4 B []),(4,some b5,.cells #[.slice (some (Addr.mk b4 0 none)) (List.length (List.set O (Int.toNat (Prod.fst x)) Bool.true)) (List.length S0)] 138),(904,Option.map (fun x=>Go.Addr.block x) ad2,Row (α:=Int) 3 (sS (Prod.snd x)) (junk2)),(3,Option.map (fun x=>Go.Addr.block x) (some (Addr.mk b4 0 none)),Row (α:=Bool) 4 (List.set O (Int.toNat (Prod.fst x)) Bool.true) ([])),(900,some l,Go.Sl.lrec q Go.LoopState.busy none),(902,some b6,.cells (List.toArray (Cells.enc (Prod.snd x))) 91),(901,some dd,Go.Obj.deferred (some [])),(0,some b1,.cells #[.int .i64 p.ins,.int .i64 p.regs,.slice ac p.code.length cc,.slice ao p.outs.length co] 26)])) (fun (m,B)=>m≤(sS x.2).length∧B=uU (A.set x.2.to.toNat false) ((sS x.2).take m)∧OwnA (some ⟨b2,0,none⟩) R0.length B []) (fun (m,B)=>(sS x.2).length - m) ((0,A.set x.2.to.toNat false)) (⟨aM _,rfl,ho2⟩) fun ⟨m,B⟩=>fun hk=>?_
   obtain ⟨hm1,hB,hoB⟩:=hk
   have hBl:B.length=A.length:=by rw [hB,wU,aG]
   rcases aK m (sS x.2).length with hlt | hge
   · have hr:0≤(sS x.2)[(m:Int).toNat]?.getD default∧(sS x.2)[(m:Int).toNat]?.getD default<B.length:=by
      rw [hBl];refine hask _ ?_
      rw [aE,aA hlt];simp
     refine aJ 13 [1] ?_
     refine gX (α:=Int) T.sl24 ?_
     refine mS 904 0 T.one3 ?_
     refine aL 6 [2] ?_
     refine gX (α:=Bool) T.sl138 ?_
     refine cU (z:=_) 1 T.size4 rfl rfl rfl sF sE rfl fun ho3=>?_
     refine aR 7 [] ?_
     refine fY 2 (.cells #[.slice (some ⟨b2,0,none⟩) (B.set ((sS x.2)[(m:Int).toNat]?.getD default).toNat true).length R0.length] 138) rfl Da ?_
     refine cL ((m+1,_)) ?_ ?_
     · exact ⟨by omega,by rw [Bj _ _ hlt,hB],ho3⟩
     show (sS x.2).length - (m+1)<(sS x.2).length - m
     omega
   have hm:m=(sS x.2).length:=sE
   subst hm
   rw [bC] at hB
   refine bE 12 [0] ?_
   refine kQ none (.inl ⟨rfl,rfl⟩) 900 rfl ⟨rfl,((B,O.set x.1.toNat true),none),rfl,.inl ⟨rfl,rfl,?_⟩⟩ (oU ⟨rfl,rfl,rfl,rfl,rfl,rfl,rfl,trivial⟩)
   refine ⟨?_,hoB,ho1⟩
   rw [hst];unfold xJ
   rw [aF (by simpa using hc1),hB]
 · obtain ⟨hn,hoA,hoO⟩:=hi
   rw [Cg] at hn
   have hO:O=sL p:=congrArg Prod.snd hn
   subst hO
   refine dX 9 [4] ?_
   refine iR ?_
   refine nJ (.inr rfl) 901 rfl ?_
   refine nT (.inr rfl) ?_
   refine qD (lY [3] sN (cK (.inr rfl) rfl (.tmp rfl) (lO 0 _) ?_))
   exact ⟨_,_,_,rfl,hoO,rfl,rfl⟩
 exact hi.elim
theorem jb (G:Imm) (i:Sl.Instr):Does Tryz.prog 102 [.agg (Cells.enc i).toArray] G [] (fun v G' Ho=>v=.bool (decide (i.op=1∧i.to=i.a))∧G'=G∧Ho=[]):=by
 refine D0 Tryz.func102 Tryz.ntmps102 fun w=>?_
 refine aJ 2 [] ?_
 refine dQ 0 fun b1=>?_
 refine aL 9 [0] ?_
 apply bW 6 6 12 rfl
 intro hg1
 refine aB 11 [0,0] ?_
 exact dA 6 0
 intro hg1
 refine aB 6 [] ?_
 exact dA 6 0
 refine aR 4 [] ?_
 refine cP ?_
 exact ⟨rfl,rfl,rfl⟩
theorem jc (G:Imm) (p:PV) (ac ao:Option Addr) (cc co:Nat) (hc:Arr G ac p.code) (ho:Arr G ao p.outs) (h1:p.code.length≤1099511627776) (h2:p.outs.length≤1099511627776) (hR:sH p=true) :
 Does Tryz.prog 49 [.agg #[.int .i64 p.ins,.int .i64 p.regs,.slice ac p.code.length cc,.slice ao p.outs.length co]] G [] (fun v G' Ho =>
  ∃ bc bo dc do_ j1 j2,v=.tuple #[.agg #[.int .i64 p.ins,.int .i64 p.regs,.slice bc (zS p).code.length dc,.slice bo p.outs.length do_],.int .i64 0]∧
   OwnA bc dc (zS p).code j1∧OwnA bo do_ p.outs j2∧Ho=[(0,bc.map (·.block),Row 91 (zS p).code j1),(1,bo.map (·.block),Row 3 p.outs j2)]∧G'=G):=by
 obtain ⟨r1,r2,r3,r4,r5,r6,r7,r8⟩:=sK hR
 have hcheck:(uD p).2=false:=by simpa [sH] using hR
 refine D0 Tryz.func49 Tryz.ntmps49 fun w=>?_
 refine dZ 0 (Row 91 ([]:List Sl.Instr) []) ?_
 refine aJ 2 [] ?_
 refine dQ 1 fun b1=>?_
 refine aN 2 rfl T.zero26 fun b2=>?_
 refine aL 6 [1] ?_
 refine cI rfl (YA _ _ _ _ _ _ sF sF sE sE) ?_
 refine aZ 14 [] ?_
 refine cT (fun hc1=>?_) fun hc1=>?_
 refine aJ 2 [] ?_
 refine aO (bO (cs:=[_,_,_,_]) T.st26 rfl rfl rfl) ?_
 refine aR 7 [2] ?_
 rotate_left
 refine aJ 11 [1] ?_
 refine bX 3 rfl (ja _ _ _ _ _ _ sF sF sE sE sF) fun v1 G1 Ho1 hle1 hp=>?_
 obtain ⟨nb1,nc1,nj1,rfl,hnb1,rfl,rfl⟩:=hp
 refine aZ 5 [] ?_
 rotate_left
 · rw [hcheck] at hc1;exact absurd rfl hc1
 have hnl:(sL p).length=p.code.length:=(vY p _).2
 refine gL (ι:=Nat×List Sl.Instr×(Option Addr×Nat×List Value)) (fun (k,xs,(b,d,j))=>([(21,.int .i64 (k:Int)),(6,.slice b xs.length d),(20,.int .i64 (↑(List.length (sL p)):Int)),(19,.slice nb1 (List.length (sL p)) nc1),(3,.int .i64 0),(2,.pointer (some ⟨b2,0,none⟩)),(1,.pointer (some ⟨b1,0,none⟩))],[(0,b.map (·.block),Row 91 xs j),(3,Option.map (fun x=>Go.Addr.block x) nb1,Row (α:=Bool) 4 (sL p) (nj1)),(2,some b2,.cells #[.int .i64 0,.int .i64 0,.slice none 0 0,.slice none 0 0] 26),(1,some b1,.cells #[.int .i64 p.ins,.int .i64 p.regs,.slice ac p.code.length cc,.slice ao p.outs.length co] 26)])) (fun (k,xs,(b,d,j))=>k≤p.code.length∧xs=vI p k∧OwnA b d xs j) (fun (k,xs,(b,d,j))=>p.code.length - k) ((0,[],(none,0,[]))) (⟨aM _,rfl,eD⟩) ⟨rfl,rfl,rfl,rfl,rfl,rfl,rfl,trivial⟩ ⟨rfl,rfl,rfl,rfl,trivial⟩ fun ⟨k,xs,(b,d,j)⟩=>fun hk=>?_
 obtain ⟨hk1,hxs,hob⟩:=hk
 have hxl:xs.length≤k:=by rw [hxs];exact Gw p k
 rcases aK k p.code.length with hlt | hge
 · have hst:vI p (k+1)=if (sL p)[(k:Int).toNat]?.getD default=true∧¬((p.code[(k:Int).toNat]?.getD default).op=1∧(p.code[(k:Int).toNat]?.getD default).to=(p.code[(k:Int).toNat]?.getD default).a)
    then vI p k++[p.code[((k:Nat):Int).toNat]?.getD default] else vI p k:=rfl
   refine aJ 14 [1] ?_
   refine gX (α:=Bool) T.sl138 ?_
   refine mS 3 0 T.one4 ?_
   refine aL 8 [] ?_
   refine Rp 27 rfl (fun hg1=>?_) fun hg1=>?_
   refine aB 7 [1] ?_
   refine fP (α:=Instr) T.sl23 ?_
   refine aB 1 [] ?_
   refine lB T.agg91 ?_
   refine aB 1 [] ?_
   refine cI rfl (jb _ _) ?_
   refine aB 1 [] ?_
   refine aO (fF rfl) ?_
   refine aZ 3 [] ?_
   refine cT (fun hc2=>?_) fun hc2=>?_
   refine aJ 5 [1] ?_
   refine fP (α:=Instr) T.sl23 ?_
   refine lB T.agg91 ?_
   refine dY (α:=Instr) 4 [(Option.getD p.code[Int.toNat (↑k:Int)]? Inhabited.default)] rfl T.sl23 T.el91 rfl rfl rfl rfl rfl fun b3=>?_
   refine jS (α:=Instr) 0 T.sl23 T.el91 (fE 4 rfl) fun a1 c1 junk1 ho1=>?_
   refine aR 8 [] ?_
   rotate_left
   refine bE 7 [] ?_
   rotate_left
   refine aR 18 [0] ?_
   rotate_left
   · refine cL ((k+1,_,(a1,c1,junk1))) ?_ ?_
     · exact ⟨by omega,by rw [hst,aF ⟨hg1,hc2⟩,hxs],ho1⟩
     show p.code.length - (k+1)<p.code.length - k
     omega
   · refine cL ((k+1,xs,(b,d,j))) ?_ ?_
     · exact ⟨by omega,by rw [hst,aD (fun h=>hc2 h.2),hxs],hob⟩
     show p.code.length - (k+1)<p.code.length - k
     omega
   refine cL ((k+1,xs,(b,d,j))) ?_ ?_
   · exact ⟨by omega,by rw [hst,aD (fun h=>by rw [hg1] at h;cases h.1),hxs],hob⟩
   show p.code.length - (k+1)<p.code.length - k
   omega
 have hk:k=p.code.length:=sE
 subst hk
 have hxs':xs=(zS p).code:=hxs
 rw [hxs'] at hob ⊢
 refine bJ 13 [0] ?_
 refine cX [1,2,3,0] [(2,9)] T.mixed [[0],[1,1],[2],[3,1],[4],[5],[6,1]] ?_
 refine bV 7 ?_
 refine bX 4 rfl (XJ _ _ _ _ sF sE) fun v2 G2 Ho2 hle2 hp=>?_
 obtain ⟨lb2,ld2,lj2,rfl,hlb2,rfl,rfl⟩:=hp
 refine bD ?_
 refine dN 8 [] rfl (bO (cs:=[_,_,_,_]) T.st26 rfl rfl rfl) ?_
 refine bV 9 ?_
 refine aB 1 [2] ?_
 refine bD ?_
 refine dE [[10]] ?_
 refine cZ ?_
 refine dX 2 [] ?_
 refine lY [0,4,2] sN (fS (.inr rfl) (Ho:=Hp.only _ [0,1]) rfl (.agg 2 rfl rfl T.agg26) (.tmp rfl) (aT _ _) ?_)
 exact ⟨_,_,_,_,_,_,rfl,hob,hlb2,rfl,rfl⟩
section
attribute [local irreducible] Me pw tY p2 xG tK sQ sH
end
theorem jd (G:Imm) (p:PV) (ac ao:Option Addr) (cc co:Nat) (hc:Arr G ac p.code) (ho:Arr G ao p.outs) (h1:p.code.length≤1099511627776) (h2:p.outs.length≤1099511627776) (hR:sH p=true) :
 Does Tryz.prog 141 [.agg #[.int .i64 p.ins,.int .i64 p.regs,.slice ac p.code.length cc,.slice ao p.outs.length co]] G [] (fun v G' Ho=>∃ b c j,v=.tuple #[.slice b (sL p).length c,.int .i64 0]∧OwnA b c (sL p) j∧Ho=[(0,b.map (·.block),Row 4 (sL p) j)]∧G'=G):=by
 obtain ⟨r1,r2,r3,r4,r5,r6,r7,r8⟩:=sK hR
 refine nS Tryz.func141 rfl Tryz.ntmps141 rfl fun w=>?_
 refine aJ 2 [] ?_
 refine dQ 0 fun b1=>?_
 refine aL 8 [0] ?_
 refine cI rfl (ak _ _ _ _ _ _ sF sF sE sE) ?_
 refine aO (fF rfl) ?_
 refine aZ 2 [] ?_
 refine cT (fun hc1=>?_) fun hc1=>?_
 refine bE 8 [] ?_
 refine nT (.inr rfl) ?_
 rotate_left
 refine aJ 7 [0] ?_
 refine fV (α:=Bool) 1 rfl T.sl138 T.el4 rfl rfl sE sE fun b2=>?_
 refine aN 2 rfl T.zero138 fun b3=>?_
 refine aL 7 [2,0] ?_
 refine fV (α:=Bool) 3 rfl T.sl138 T.el4 rfl rfl sE sE fun b4=>?_
 refine aN 4 rfl T.zero138 fun b5=>?_
 refine aZ 13 [4,0] ?_
 rotate_left
 · exact absurd hR hc1
 generalize hR0:List.replicate p.regs.toNat (default:Bool)=R0 at *
 have hR0l:(R0.length:Int)=p.regs:=by rw [←hR0,aI];omega
 generalize hS0:List.replicate ((p.code.length:Int)).toNat (default:Bool)=S0 at *
 have hS0l:S0.length=p.code.length:=by rw [←hS0,aI];omega
 refine gY (ι:=Nat×List Bool) (fun (k,xs)=>([(25,.int .i64 (k:Int)),(24,.int .i64 (↑p.outs.length:Int)),(23,.slice ao p.outs.length co),(5,.pointer (some (Addr.mk b5 0 none))),(4,.pointer (some (Addr.mk b3 0 none))),(3,.int .i64 0),(2,.slice none 0 0),(1,.pointer (some ⟨b1,0,none⟩))],[(4,some b5,.cells #[.slice (some ⟨b4,0,none⟩) xs.length R0.length] 138),(3,some b4,Row 4 xs []),(2,some b3,.cells (List.toArray (List.set [.slice none 0 0] 0 (.slice (some (Addr.mk b2 0 none)) (List.length S0) (List.length S0)))) 138),(1,some b2,Row (α:=Bool) 4 (S0) ([])),(0,some b1,.cells #[.int .i64 p.ins,.int .i64 p.regs,.slice ac p.code.length cc,.slice ao p.outs.length co] 26)])) (fun (k,xs)=>k≤p.outs.length∧xs=uU R0 (p.outs.take k)∧OwnA (some ⟨b4,0,none⟩) R0.length xs []) (fun (k,xs)=>p.outs.length - k) ((0,R0)) (⟨aM _,rfl,fM Nc⟩) fun ⟨k,xs⟩=>fun hk=>?_
 obtain ⟨hk1,hxs,hox⟩:=hk
 have hxl:(xs.length:Int)=p.regs:=by rw [hxs,wU];exact hR0l
 rcases aK k p.outs.length with hlt | hge
 · have hr:0≤p.outs[(k:Int).toNat]?.getD default∧p.outs[(k:Int).toNat]?.getD default<xs.length:=by
    rw [hxl];refine r7 _ ?_
    rw [aE,aA hlt];simp
   refine aJ 13 [1] ?_
   refine fP (α:=Int) T.sl24 ?_
   refine iY 0 T.one3 ?_
   refine aL 6 [4] ?_
   refine gX (α:=Bool) T.sl138 ?_
   refine cU (z:=_) 3 T.size4 rfl rfl rfl sF sE rfl fun ho1=>?_
   refine aR 7 [] ?_
   refine fY 4 (.cells #[.slice (some ⟨b4,0,none⟩) (xs.set (p.outs[(k:Int).toNat]?.getD default).toNat true).length R0.length] 138) rfl Da ?_
   refine cL ((k+1,_)) ?_ ?_
   · exact ⟨by omega,by rw [Bj _ _ hlt,hxs],ho1⟩
   show p.outs.length - (k+1)<p.outs.length - k
   omega
 have hk:k=p.outs.length:=sE
 subst hk
 rw [bC] at hxs
 clear hk1 hge
 refine aJ 16 [0,0] ?_
 refine bX 5 rfl (aw _ _ _ _ _ _) fun v1 G1 Ho1 hle1 hp=>?_
 obtain ⟨bb1,rfl,rfl,hbb1⟩:=hp
 replace hc:=hc.up hle1
 replace ho:=ho.up hle1
 refine aZ 3 [] ?_
 refine pS (ι:=List Bool×List Bool) 900 901 (fun (A,O)=>[(2,some b3,.cells #[.slice (some ⟨b2,0,none⟩) O.length S0.length] 138),(1,some b2,Row 4 O []),(4,some b5,.cells #[.slice (some ⟨b4,0,none⟩) A.length R0.length] 138),(3,some b4,Row 4 A []),(0,some b1,.cells #[.int .i64 p.ins,.int .i64 p.regs,.slice ac p.code.length cc,.slice ao p.outs.length co] 26)]) (fun k (A,O)=>(A,O)=yT p k∧OwnA (some ⟨b4,0,none⟩) R0.length A []∧OwnA (some ⟨b2,0,none⟩) S0.length O []) (fun c (A,O)=>False) ((xs,S0)) rfl T.fn199 (fun _=>rfl) rfl (VN _ p _ _ _ _ _ hc ho sE sE hbb1 hR) (⟨by rw [hxs,←hR0,←hS0];rfl,hox,fM Nc⟩) (oU ⟨rfl,rfl,rfl,rfl,rfl,trivial⟩) ⟨rfl,fun _=>rfl⟩ (fun k x ⟨A,O⟩ l dd q w0 hx hi=>?_) (fun ⟨A,O⟩ dd hi=>?_) fun ⟨A,O⟩ dd c hi=>?_
 · obtain ⟨hn,hoA,hoO⟩:=hi
   have hkl:k<p.code.length:=by have:=(bZ.1 hx).1;rw [Cg] at this;exact this
   have hxe:x=(((p.code.length - 1 - k:Nat):Int),p.code[p.code.length - 1 - k]?.getD default):=by rw [Kx _ hkl] at hx;exact (jD hx).symm
   have hx1:x.1=((p.code.length - 1 - k:Nat):Int):=by rw [hxe]
   have hx2:x.2=p.code[p.code.length - 1 - k]?.getD default:=by rw [hxe]
   clear hxe
   have hm:sP x.2 p.regs=true:=by
    rw [hx2];refine r8 _ ?_
    rw [aA sE,dK];exact bI _
   have hAl:(A.length:Int)=p.regs:=by have:=(vY p k).1;rw [←hn] at this;show (A.length:Int)=_;rw [show A.length=p.regs.toNat from this];omega
   have hOl:O.length=p.code.length:=by have:=(vY p k).2;rw [←hn] at this;exact this
   have hto:0≤x.2.to∧x.2.to<A.length:=by rw [hAl];rw [tB] at hm;exact ⟨hm.1.2.2.1,hm.1.2.2.2.1⟩
   have hx1b:0≤x.1∧x.1<O.length:=by rw [hx1,hOl];omega
   have hask:∀ r∈sS x.2,0≤r∧r<A.length:=by rw [hAl];exact Mx hm
   have hst:yT p (k+1)=xJ (A,O) x.1 x.2:=by rw [hx1,hx2,hn];rfl
   have hasks:(sS x.2).length≤2:=by unfold sS;split <;> (try split) <;> simp
   refine aJ 6 [] ?_
   refine aN 902 rfl T.zero91 fun b6=>?_
   refine aR 2 [902] ?_
   refine qZ 900 rfl ?_
   refine aJ 7 [4,902] ?_
   refine gX (α:=Bool) T.sl138 ?_
   refine mS 3 0 T.one4 ?_
   refine aZ 3 [] ?_
   refine kZ rfl (fun hc2=>?_) fun hc2=>?_
   refine bE 3 [] ?_
   rotate_left
   refine bJ 3 [] ?_
   refine cX [0,3,4,1,2,901,902,900] [(900,8),(902,8),(901,8),(2,8),(1,8),(4,8),(3,8),(0,8),(900,6),(902,6),(901,6),(2,6),(1,6),(4,6),(3,6),(0,6)] T.mixed [[0,2],[1],[3]] ?_
   refine fH (α:=Bool) 5 T.sl138 ?_
   refine Gm.o3 2 4 6 ?_ ?_ ?_
   refine aB 1 [4] ?_
   refine bD ?_
   refine nD 4 6 ?_ ?_
   refine aB 1 [902] ?_
   refine cG 6 ?_
   refine cU (z:=_) 1 T.size4 rfl rfl rfl sF sE rfl fun ho1=>?_
   refine bD ?_
   refine fH (α:=Bool) 7 T.sl138 ?_
   refine bV 8 ?_
   refine cU (z:=_) 3 T.size4 rfl rfl rfl sF sE rfl fun ho2=>?_
   refine eZ ?_
   refine nE 4 [902] ?_
   refine bX 903 rfl (HF _ _) fun v2 G2 Ho2 hle2 hp=>?_
   obtain ⟨ad2,cd2,junk2,rfl,hoa2,rfl,rfl⟩:=hp
   refine aZ 5 [] ?_
   rotate_left
   refine cU (z:=_) 1 T.size4 rfl rfl rfl sF sE rfl fun ho1=>?_
   refine cG 4 ?_
   refine aB 1 [902] ?_
   refine bD ?_
   refine fH (α:=Bool) 7 T.sl138 ?_
   refine bV 8 ?_
   refine cU (z:=_) 3 T.size4 rfl rfl rfl sF sE rfl fun ho2=>?_
   refine eZ ?_
   refine nE 4 [902] ?_
   refine bX 903 rfl (HF _ _) fun v2 G2 Ho2 hle2 hp=>?_
   obtain ⟨ad2,cd2,junk2,rfl,hoa2,rfl,rfl⟩:=hp
   refine aZ 5 [] ?_
   rotate_left
   refine aB 1 [902] ?_
   refine bD ?_
   refine nD 2 6 ?_ ?_
   refine aB 1 [4] ?_
   refine cG 6 ?_
   refine cU (z:=_) 1 T.size4 rfl rfl rfl sF sE rfl fun ho1=>?_
   refine bD ?_
   refine fH (α:=Bool) 7 T.sl138 ?_
   refine bV 8 ?_
   refine cU (z:=_) 3 T.size4 rfl rfl rfl sF sE rfl fun ho2=>?_
   refine eZ ?_
   refine nE 4 [902] ?_
   refine bX 903 rfl (HF _ _) fun v2 G2 Ho2 hle2 hp=>?_
   obtain ⟨ad2,cd2,junk2,rfl,hoa2,rfl,rfl⟩:=hp
   refine aZ 5 [] ?_
   rotate_left
   refine cU (z:=_) 1 T.size4 rfl rfl rfl sF sE rfl fun ho1=>?_
   refine cG 2 ?_
   refine aB 1 [4] ?_
   refine bD ?_
   refine fH (α:=Bool) 7 T.sl138 ?_
   refine bV 8 ?_
   refine cU (z:=_) 3 T.size4 rfl rfl rfl sF sE rfl fun ho2=>?_
   refine eZ ?_
   refine nE 4 [902] ?_
   refine bX 903 rfl (HF _ _) fun v2 G2 Ho2 hle2 hp=>?_
   obtain ⟨ad2,cd2,junk2,rfl,hoa2,rfl,rfl⟩:=hp
   refine aZ 5 [] ?_
   rotate_left
   refine cU (z:=_) 1 T.size4 rfl rfl rfl sF sE rfl fun ho1=>?_
   refine bD ?_
   refine nD 2 4 ?_ ?_
   refine aB 1 [4] ?_
   refine cG 4 ?_
   refine aB 1 [902] ?_
   refine bD ?_
   refine fH (α:=Bool) 7 T.sl138 ?_
   refine bV 8 ?_
   refine cU (z:=_) 3 T.size4 rfl rfl rfl sF sE rfl fun ho2=>?_
   refine eZ ?_
   refine nE 4 [902] ?_
   refine bX 903 rfl (HF _ _) fun v2 G2 Ho2 hle2 hp=>?_
   obtain ⟨ad2,cd2,junk2,rfl,hoa2,rfl,rfl⟩:=hp
   refine aZ 5 [] ?_
   rotate_left
   refine aB 1 [902] ?_
   refine cG 2 ?_
   refine aB 1 [4] ?_
   refine bD ?_
   refine fH (α:=Bool) 7 T.sl138 ?_
   refine bV 8 ?_
   refine cU (z:=_) 3 T.size4 rfl rfl rfl sF sE rfl fun ho2=>?_
   refine eZ ?_
   refine nE 4 [902] ?_
   refine bX 903 rfl (HF _ _) fun v2 G2 Ho2 hle2 hp=>?_
   obtain ⟨ad2,cd2,junk2,rfl,hoa2,rfl,rfl⟩:=hp
   refine aZ 5 [] ?_
   rotate_left
   · refine kQ none (.inl ⟨rfl,rfl⟩) 900 rfl ⟨rfl,((A,O),none),rfl,.inl ⟨rfl,rfl,?_⟩⟩ (oU ⟨rfl,rfl,rfl,rfl,rfl,rfl,rfl,trivial⟩)
     refine ⟨?_,hoA,hoO⟩
     rw [hst];unfold xJ
     rw [aD (by simpa using hc2)]
   all_goals
    have hoO':OwnA (some ⟨b2,0,none⟩) S0.length (O.set x.1.toNat true) []:=by assumption
    have hoA':OwnA (some ⟨b4,0,none⟩) R0.length (A.set x.2.to.toNat false) []:=by assumption
    refine pR 4 (.cells #[.slice (some ⟨b4,0,none⟩) (A.set x.2.to.toNat false).length R0.length] 138) rfl Da (pR 2 (.cells #[.slice (some ⟨b2,0,none⟩) (O.set x.1.toNat true).length S0.length] 138) rfl Da ?_)
    refine gY (ι:=Nat×List Bool) (fun (m,B)=>([(53,.int .i64 (m:Int)),(52,.int .i64 (↑(List.length (sS (Prod.snd x))):Int)),(51,.slice ad2 (List.length (sS (Prod.snd x))) cd2),(5,.pointer (some (Addr.mk b5 0 none)))],[(4,some b5,.cells #[.slice (some ⟨b4,0,none⟩) B.length R0.length] 138),(3,some b4,Row 4 B []),(2,some b3,.cells #[.slice (some (Addr.mk b2 0 none)) (List.length (List.set O (Int.toNat (Prod.fst x)) Bool.true)) (List.length S0)] 138),(904,Option.map (fun x=>Go.Addr.block x) ad2,Row (α:=Int) 3 (sS (Prod.snd x)) (junk2)),(1,Option.map (fun x=>Go.Addr.block x) (some (Addr.mk b2 0 none)),Row (α:=Bool) 4 (List.set O (Int.toNat (Prod.fst x)) Bool.true) ([])),(900,some l,Go.Sl.lrec q Go.LoopState.busy none),(902,some b6,.cells (List.toArray (Cells.enc (Prod.snd x))) 91),(901,some dd,Go.Obj.deferred (some [])),(0,some b1,.cells #[.int .i64 p.ins,.int .i64 p.regs,.slice ac p.code.length cc,.slice ao p.outs.length co] 26)])) (fun (m,B)=>m≤(sS x.2).length∧B=uU (A.set x.2.to.toNat false) ((sS x.2).take m)∧OwnA (some ⟨b4,0,none⟩) R0.length B []) (fun (m,B)=>(sS x.2).length - m) ((0,A.set x.2.to.toNat false)) (⟨aM _,rfl,hoA'⟩) fun ⟨m,B⟩=>fun hk=>?_
    obtain ⟨hm1,hB,hoB⟩:=hk
    have hBl:B.length=A.length:=by rw [hB,wU,aG]
    rcases aK m (sS x.2).length with hlt | hge
    · have hr:0≤(sS x.2)[(m:Int).toNat]?.getD default∧(sS x.2)[(m:Int).toNat]?.getD default<B.length:=by
       rw [hBl];refine hask _ ?_
       rw [aE,aA hlt];simp
      refine aJ 13 [1] ?_
      refine gX (α:=Int) T.sl24 ?_
      refine mS 904 0 T.one3 ?_
      refine aL 6 [4] ?_
      refine gX (α:=Bool) T.sl138 ?_
      refine cU (z:=_) 3 T.size4 rfl rfl rfl sF sE rfl fun ho3=>?_
      refine aR 7 [] ?_
      refine fY 4 (.cells #[.slice (some ⟨b4,0,none⟩) (B.set ((sS x.2)[(m:Int).toNat]?.getD default).toNat true).length R0.length] 138) rfl Da ?_
      refine cL ((m+1,_)) ?_ ?_
      · exact ⟨by omega,by rw [Bj _ _ hlt,hB],by assumption⟩
      show (sS x.2).length - (m+1)<(sS x.2).length - m
      omega
    have hm:m=(sS x.2).length:=sE
    subst hm
    rw [bC] at hB
    refine bE 12 [0] ?_
    refine kQ none (.inl ⟨rfl,rfl⟩) 900 rfl ⟨rfl,((B,O.set x.1.toNat true),none),rfl,.inl ⟨rfl,rfl,?_⟩⟩ (oU ⟨rfl,rfl,rfl,rfl,rfl,rfl,rfl,trivial⟩)
    refine ⟨?_,hoB,hoO'⟩
    rw [hst];unfold xJ
    rw [aF (by simpa using hc2),hB]
 · obtain ⟨hn,hoA,hoO⟩:=hi
   rw [Cg] at hn
   have hO:O=sL p:=congrArg Prod.snd hn
   subst hO
   refine dX 10 [2] ?_
   refine nJ (.inr rfl) 901 rfl ?_
   refine nT (.inr rfl) ?_
   refine qD (lY [1] sN (fS (.inr rfl) rfl (.tmp rfl) (.tmp rfl) (lO 0 _) ?_))
   exact ⟨_,_,_,rfl,hoO,rfl,rfl⟩
 exact hi.elim
structure Life where
 a:List Int
 b:List Int
 sets:List Int
 outs:List Int
 till:List Int
 held:List Int
def xT (p:PV) (k:Nat):Sl.Instr:=p.code[((k:Nat):Int).toNat]?.getD default
def Bb (p:PV) (k:Nat):Bool:=(sL p)[((k:Nat):Int).toNat]?.getD default
def vA (l:Life) (i:Sl.Instr):Int:=l.held[i.a.toNat]?.getD default
def vB (l:Life) (i:Sl.Instr):Int:=if 1<(sS i).length then l.held[i.b.toNat]?.getD default else vA l i
def uK (l:Life) (k:Nat) (i:Sl.Instr):Life:=
 ⟨l.a.set k (vA l i),l.b.set k (vB l i),l.sets.set k l.till.length,l.outs,((l.till.set (vA l i).toNat k).set (vB l i).toNat k)++[-1],l.held.set i.to.toNat l.till.length⟩
def vP (p:PV):Life:=
 ⟨List.replicate p.code.length 0,List.replicate p.code.length 0,List.replicate p.code.length 0,[],List.replicate (p.ins.toNat+1) (-1),(List.range p.regs.toNat).map fun (r:Nat)=>min (r:Int) p.ins⟩
def sO (p:PV):Nat→Life
 | 0=>vP p
 | k+1=>if Bb p k=true then uK (sO p k) k (xT p k) else sO p k
def Cy (p:PV) (l:Life) (r:Int):Life:=
 { l with outs:=l.outs++[l.held[r.toNat]?.getD default],till:=l.till.set (l.held[r.toNat]?.getD default).toNat p.code.length }
def vQ (p:PV):Nat→Life
 | 0=>sO p p.code.length
 | j+1=>Cy p (vQ p j) (p.outs[((j:Nat):Int).toNat]?.getD default)
def lifeP (p:PV):Life:=vQ p p.outs.length
structure LifeOk (p:PV) (k:Nat) (l:Life):Prop where
 al:l.a.length=p.code.length
 bl:l.b.length=p.code.length
 sl:l.sets.length=p.code.length
 hl:(l.held.length:Int)=p.regs
 t0:p.ins+1≤l.till.length
 t1:(l.till.length:Int)≤p.ins+1+k
 hb:∀ v∈l.held,0≤v∧v<l.till.length
 ab:∀ v∈l.a,0≤v∧v<l.till.length
 bb:∀ v∈l.b,0≤v∧v<l.till.length
 sb:∀ v∈l.sets,0≤v∧v<l.till.length
 ob:∀ v∈l.outs,0≤v∧v<l.till.length
theorem OJ {p:PV} {k:Nat} {l:Life} {i:Sl.Instr} (h:LifeOk p k l) (hm:sP i p.regs=true):0≤vA l i∧vA l i<l.till.length:=by
 have h1:=(tE hm).2.2.1
 exact h.hb _ (get_mem (by rw [h.hl];exact h1))
theorem Ky {i:Sl.Instr} (h:1<(sS i).length):i.op=3∨i.op=4:=by
 unfold sS at h
 split at h
 · assumption
 split at h <;> simp at h
theorem My (i:Sl.Instr):1<(sS i).length↔i.op=3∨i.op=4:=⟨Ky,fun h=>by unfold sS;rw [aF h];simp⟩
theorem OK {p:PV} {k:Nat} {l:Life} {i:Sl.Instr} (h:LifeOk p k l) (hm:sP i p.regs=true):0≤vB l i∧vB l i<l.till.length:=by
 unfold vB
 split
 · rename_i h2
   have h1:=(tE hm).2.2.2.1 (Ky h2)
   exact h.hb _ (get_mem (by rw [h.hl];exact h1))
 exact OJ h hm
theorem OL {p:PV} (h:1≤p.ins∧p.ins≤p.regs):LifeOk p 0 (vP p):=by
 have ht:(vP p).till.length=p.ins.toNat+1:=aI
 refine ⟨aI,aI,aI,?_,by rw [ht];omega,by rw [ht];omega,?_,?_,?_,?_,?_⟩
 · show (((List.range p.regs.toNat).map _).length:Int)=p.regs
   rw [aP,bS];omega
 · intro v hv
   obtain ⟨r,hr,rfl⟩:=dJ.1 (show v∈(List.range p.regs.toNat).map _ from hv)
   rw [ht];omega
 all_goals intro v hv
 · rw [iX (show v∈List.replicate _ _ from hv),ht];omega
 · rw [iX (show v∈List.replicate _ _ from hv),ht];omega
 · rw [iX (show v∈List.replicate _ _ from hv),ht];omega
 cases hv
theorem Bn (l:Life) (k:Nat) (i:Sl.Instr):(uK l k i).till.length=l.till.length+1:=by
 show (((l.till.set _ _).set _ _)++[-1]).length=_
 rw [aC,aG,aG];rfl
theorem AO {p:PV} {k:Nat} {l:Life} {i:Sl.Instr} (h:LifeOk p k l) (hm:sP i p.regs=true):LifeOk p (k+1) (uK l k i):=by
 have ha:=OJ h hm
 have hb:=OK h hm
 have ht:=Bn l k i
 have h0:=h.t0
 have h1:=h.t1
 refine ⟨by show (l.a.set _ _).length=_;rw [aG];exact h.al,by show (l.b.set _ _).length=_;rw [aG];exact h.bl,by show (l.sets.set _ _).length=_;rw [aG];exact h.sl,by show ((l.held.set _ _).length:Int)=_;rw [aG];exact h.hl,by rw [ht];omega,by rw [ht];omega,?_,?_,?_,?_,?_⟩
 all_goals intro v hv;rw [ht]
 · rcases eN (show v∈l.held.set _ _ from hv) with h2 | h2
   · have:=h.hb v h2;omega
   omega
 · rcases eN (show v∈l.a.set _ _ from hv) with h2 | h2
   · have:=h.ab v h2;omega
   omega
 · rcases eN (show v∈l.b.set _ _ from hv) with h2 | h2
   · have:=h.bb v h2;omega
   omega
 · rcases eN (show v∈l.sets.set _ _ from hv) with h2 | h2
   · have:=h.sb v h2;omega
   omega
 have:=h.ob v hv;omega
theorem LifeOk.next {p:PV} {k:Nat} {l:Life} (h:LifeOk p k l):LifeOk p (k+1) l:=⟨h.al,h.bl,h.sl,h.hl,h.t0,by have:=h.t1;omega,h.hb,h.ab,h.bb,h.sb,h.ob⟩
theorem wW {p:PV} (hR:sH p=true) {k:Nat} (hk:k<p.code.length):sP (xT p k) p.regs=true:=by
 refine (sK hR).2.2.2.2.2.2.2 _ ?_
 unfold xT
 rw [aE,aA hk];exact bI hk
theorem wZ {p:PV} (hR:sH p=true):∀ k,k≤p.code.length→LifeOk p k (sO p k)
 | 0,_=>OL ⟨(sK hR).1,(sK hR).2.1⟩
 | k+1,hk=>by
   have ih:=wZ hR k sE
   unfold sO
   split
   · exact AO ih (wW hR sE)
   exact ih.next
theorem DD {p:PV} {k:Nat} {l:Life} {r:Int} (h:LifeOk p k l) (hr:0≤r∧r<p.regs):LifeOk p k (Cy p l r):=by
 have ht:(Cy p l r).till.length=l.till.length:=aG
 have hv:=h.hb _ (get_mem (r:=r) (by rw [h.hl];exact hr))
 refine ⟨h.al,h.bl,h.sl,h.hl,by rw [ht];exact h.t0,by rw [ht];exact h.t1,?_,?_,?_,?_,?_⟩
 all_goals intro v hv2;rw [ht]
 · exact h.hb v hv2
 · exact h.ab v hv2
 · exact h.bb v hv2
 · exact h.sb v hv2
 rcases gW.1 (show v∈l.outs++[_] from hv2) with h2 | h2
 · exact h.ob v h2
 rw [eQ.1 h2];exact hv
theorem Mz {p:PV} (hR:sH p=true) {j:Nat} (hj:j<p.outs.length):0≤p.outs[((j:Nat):Int).toNat]?.getD default∧p.outs[((j:Nat):Int).toNat]?.getD default<p.regs:=by
 refine (sK hR).2.2.2.2.2.2.1 _ ?_
 rw [aE,aA hj];exact bI hj
theorem Qb {p:PV} (hR:sH p=true):∀ j,j≤p.outs.length→LifeOk p p.code.length (vQ p j)
 | 0,_=>wZ hR _ (aH _)
 | j+1,hj=>DD (Qb hR j sE) (Mz hR sE)
theorem OM {p:PV} (hR:sH p=true):LifeOk p p.code.length (lifeP p):=Qb hR _ (aH _)
theorem Kz (p:PV):∀ j,(vQ p j).outs.length=(sO p p.code.length).outs.length+j
 | 0=>rfl
 | j+1=>by show (_++[_]).length=_;rw [aC,Kz p j];rfl
theorem zJ (p:PV):∀ k,(sO p k).outs=[]
 | 0=>rfl
 | k+1=>by
   unfold sO
   split
   · exact zJ p k
   exact zJ p k
theorem Qc (p:PV):(lifeP p).outs.length=p.outs.length:=by unfold lifeP;rw [Kz,zJ];exact dC _
structure Pl where
 at_:List (Int×Int)
 free:List Bool
def stand (s:Pl) (v:Int):Int:=(mget s.at_ v).getD 0
def La (s:Pl) (v u:Int):Pl:=⟨Bt s.at_ v s.free.length,s.free++[decide (u<0)]⟩
def least (l:List Bool):Nat:=l.findIdx (fun b=>b)
def wD (s:Pl) (v:Int):Pl:=⟨Bt s.at_ v (least s.free),if least s.free<s.free.length then s.free.set (least s.free) false else s.free++[false]⟩
def vC (l:Life) (k:Nat) (s:Pl) (v:Int):Pl:=if l.till[v.toNat]?.getD default=k then ⟨s.at_,s.free.set (stand s v).toNat true⟩ else s
def zK (l:Life):Nat→Pl
 | 0=>⟨[],[]⟩
 | v+1=>La (zK l v) v (l.till[((v:Nat):Int).toNat]?.getD default)
def zR (p:PV) (l:Life):Pl:=if 0≤l.till[p.ins.toNat]?.getD default then La (zK l p.ins.toNat) p.ins (l.till[p.ins.toNat]?.getD default) else zK l p.ins.toNat
structure PkS where
 s:Pl
 regs:Int
 code:List Sl.Instr
def Hd (l:Life) (x:PkS) (k:Nat) (i:Sl.Instr):PkS:=
 let va:=l.a[((k:Nat):Int).toNat]?.getD default
 let vb:=l.b[((k:Nat):Int).toNat]?.getD default
 let s2:=vC l k (vC l k x.s va) vb
 ⟨wD s2 (l.sets[((k:Nat):Int).toNat]?.getD default),max x.regs ((least s2.free:Int)+1),x.code++[⟨i.op,least s2.free,stand x.s va,if 1<(sS i).length then stand x.s vb else i.b,i.c⟩]⟩
def tD (p:PV):Nat→PkS
 | 0=>⟨zR p (lifeP p),max p.ins (zR p (lifeP p)).free.length,[]⟩
 | k+1=>if Bb p k=true then Hd (lifeP p) (tD p k) k (xT p k) else tD p k
def tA (p:PV):PV:=⟨p.ins,(tD p p.code.length).regs,(tD p p.code.length).code,(lifeP p).outs.map (stand (tD p p.code.length).s)⟩
structure PlOk (s:Pl):Prop where
 f0:0<s.free.length
 ab:∀ v,0≤stand s v∧stand s v<s.free.length
theorem Lb (s:Pl) (v w r:Int) (f:List Bool):stand ⟨Bt s.at_ v r,f⟩ w=if w=v then r else stand s w:=by
 unfold stand
 rw [wX]
 split <;> rfl
theorem zL (l:List Bool):least l≤l.length:=List.findIdx_le_length
theorem Vz {s:Pl} (h:∀ v,0≤stand s v∧stand s v≤s.free.length) (v u:Int):PlOk (La s v u):=by
 have hl:(La s v u).free.length=s.free.length+1:=by show (s.free++[_]).length=_;rw [aC];rfl
 refine ⟨by omega,fun w=>?_⟩
 have h1:stand (La s v u) w=if w=v then (s.free.length:Int) else stand s w:=Lb s v w _ _
 have h2:=h w
 rw [h1,hl]
 split <;> omega
theorem PlOk.le {s:Pl} (h:PlOk s) (v:Int):0≤stand s v∧stand s v≤s.free.length:=by have:=h.ab v;omega
theorem Qd (l:Life):∀ n,PlOk (zK l (n+1))∧(zK l (n+1)).free.length=n+1
 | 0=>⟨Vz (s:=⟨[],[]⟩) (fun v=>⟨kP _,kP _⟩) _ _,rfl⟩
 | n+1=>by
   obtain ⟨h1,h2⟩:=Qd l n
   exact ⟨Vz h1.le _ _,by show ((zK l (n+1)).free++[_]).length=_;rw [aC,h2];rfl⟩
theorem Ac (l:Life):∀ n,(zK l n).free.length=n
 | 0=>rfl
 | n+1=>(Qd l n).2
theorem Fb {p:PV} (h:1≤p.ins) (l:Life):PlOk (zR p l)∧p.ins≤(zR p l).free.length∧((zR p l).free.length:Int)≤p.ins+1:=by
 obtain ⟨n,hn⟩:∃ n,p.ins.toNat=n+1:=⟨p.ins.toNat - 1,by omega⟩
 have h1:=(Qd l n).1
 have h2:=Ac l p.ins.toNat
 unfold zR
 split
 · refine ⟨Vz (by rw [hn];exact h1.le) _ _,?_⟩
   show p.ins≤(((zK l p.ins.toNat).free++[_]).length:Int)∧(((zK l p.ins.toNat).free++[_]).length:Int)≤_
   rw [aC,h2]
   constructor
   · show p.ins≤((p.ins.toNat+1:Nat):Int);omega
   show ((p.ins.toNat+1:Nat):Int)≤_;omega
 rw [hn];exact ⟨h1,by rw [Ac];omega,by rw [Ac];omega⟩
theorem vZ (l:Life) (k:Nat) (s:Pl) (v:Int):(vC l k s v).free.length=s.free.length:=by
 unfold vC;split
 · exact aG
 rfl
theorem Ch (l:Life) (k:Nat) (s:Pl) (v:Int):(vC l k s v).at_=s.at_:=by
 unfold vC;split <;> rfl
theorem zZ (l:Life) (k:Nat) (s:Pl) (v w:Int):stand (vC l k s v) w=stand s w:=by
 unfold stand;rw [Ch]
theorem Ad {l:Life} {k:Nat} {s:Pl} {v:Int} (h:PlOk s):PlOk (vC l k s v):=⟨by rw [vZ];exact h.f0,fun w=>by rw [zZ,vZ];exact h.ab w⟩
theorem zM (s:Pl) (v:Int):(wD s v).free.length=if least s.free<s.free.length then s.free.length else s.free.length+1:=by
 unfold wD
 simp only
 split
 · exact aG
 rw [aC];rfl
theorem He (s:Pl) (v w:Int):stand (wD s v) w=if w=v then (least s.free:Int) else stand s w:=Lb s v w _ _
theorem FI {s:Pl} (h:PlOk s) (v:Int):PlOk (wD s v):=by
 have h1:=zL s.free
 have h0:=h.f0
 refine ⟨by rw [zM];split <;> omega,fun w=>?_⟩
 have h2:=h.ab w
 rw [He,zM]
 split <;> split <;> omega
theorem FJ {p:PV} (h:1≤p.ins):∀ k,PlOk (tD p k).s
 | 0=>(Fb h _).1
 | k+1=>by
   have ih:=FJ h k
   unfold tD
   split
   · exact FI (Ad (Ad ih)) _
   exact ih
theorem AP {p:PV} (h:1≤p.ins):∀ k,((tD p k).s.free.length:Int)≤p.ins+1+k∧(tD p k).code.length≤k
 | 0=>⟨by show ((zR p (lifeP p)).free.length:Int)≤_;have:=(Fb h (lifeP p)).2.2;omega,aH _⟩
 | k+1=>by
   obtain ⟨h1,h2⟩:=AP h k
   unfold tD
   split
   · refine ⟨?_,by show ((tD p k).code++[_]).length≤_;rw [aC];show _+1≤_;omega⟩
     show ((wD _ _).free.length:Int)≤_
     rw [zM,vZ,vZ]
     split <;> omega
   omega
def tU (p:PV) (k:Nat) (r:Int):Int:=(sO p k).held[r.toNat]?.getD default
def uC (p:PV) (k:Nat):Nat:=(sO p k).till.length
def tl (l:Life) (v:Int):Int:=l.till[v.toNat]?.getD default
def Bc (p:PV) (k:Nat):Int:=vA (sO p k) (xT p k)
def Bd (p:PV) (k:Nat):Int:=vB (sO p k) (xT p k)
theorem Ci {p:PV} {k:Nat} (h:Bb p k=true):sO p (k+1)=uK (sO p k) k (xT p k):=aF h
theorem Jf {p:PV} {k:Nat} (h:¬Bb p k=true):sO p (k+1)=sO p k:=aD h
theorem Jg {p:PV} {k:Nat} (h:Bb p k=true):uC p (k+1)=uC p k+1:=by unfold uC;rw [Ci h];exact Bn _ _ _
theorem Wa {p:PV} {k:Nat} (h:¬Bb p k=true):uC p (k+1)=uC p k:=by unfold uC;rw [Jf h]
theorem Ae (p:PV) {k j:Nat} (h:k≤j):uC p k≤uC p j:=by
 induction j with
 | zero=>rw [qP.1 h];exact aH _
 | succ j ih =>
   by_cases hk:k=j+1
   · rw [hk];exact aH _
   have h1:=ih sE
   by_cases hn:Bb p j=true
   · rw [Jg hn];omega
   rw [Wa hn];exact h1
theorem Ek {p:PV} (hR:sH p=true) {k:Nat} (hk:k<p.code.length) (h:Bb p k=true) {r:Int} (hr:0≤r∧r<p.regs):tU p (k+1) r=if (xT p k).to=r then (uC p k:Int) else tU p k r:=by
 unfold tU
 rw [Ci h]
 have hl:=(wZ hR k sE).hl
 have ht:=(tE (wW hR hk)).2.1
 show ((sO p k).held.set (xT p k).to.toNat _)[r.toNat]?.getD default=_
 rw [yF (by rw [hl];exact hr),cS ht.1]
 rfl
theorem Wb {p:PV} {k:Nat} (h:¬Bb p k=true) (r:Int):tU p (k+1) r=tU p k r:=by unfold tU;rw [Jf h]
theorem Na {p:PV} (hR:sH p=true) {k:Nat} (hk:k≤p.code.length) {r:Int} (hr:0≤r∧r<p.regs):0≤tU p k r∧tU p k r<uC p k:=by
 have ok:=wZ hR k hk
 exact ok.hb _ (get_mem (by rw [ok.hl];exact hr))
theorem Fc {p:PV} (hR:sH p=true) {r:Int} (hr:0≤r∧r<p.regs) {k:Nat}:∀ (j:Nat),k≤j→j≤p.code.length→tU p j r<uC p k→tU p k r=tU p j r
 | 0,h,_,_=>by rw [qP.1 h]
 | j+1,h,hj,hv=>by
   by_cases hk:k=j+1
   · rw [hk]
   have hm:=Ae p (show k≤j by omega)
   by_cases hn:Bb p j=true
   · have e:=Ek hR sE hn hr
     by_cases ht:(xT p j).to=r
     · rw [aF ht] at e;rw [e] at hv;omega
     rw [aD ht] at e
     rw [e] at hv ⊢
     exact Fc hR hr j sE sE hv
   rw [Wb hn] at hv ⊢
   exact Fc hR hr j sE sE hv
theorem Wd {p:PV} (hR:sH p=true) {k:Nat} (hk:k<p.code.length):(0≤Bc p k∧Bc p k<uC p k)∧(0≤Bd p k∧Bd p k<uC p k):=
 ⟨OJ (wZ hR k sE) (wW hR hk),OK (wZ hR k sE) (wW hR hk)⟩
theorem ON {p:PV} (hR:sH p=true) {k:Nat} (hk:k<p.code.length):(∃ r,(0≤r∧r<p.regs)∧tU p k r=Bc p k)∧(∃ r,(0≤r∧r<p.regs)∧tU p k r=Bd p k):=by
 have hm:=tE (wW hR hk)
 have h1:∃ r,(0≤r∧r<p.regs)∧tU p k r=Bc p k:=⟨(xT p k).a,hm.2.2.1,rfl⟩
 refine ⟨h1,?_⟩
 by_cases h2:1<(sS (xT p k)).length
 · exact ⟨(xT p k).b,hm.2.2.2.1 (Ky h2),(aF h2).symm⟩
 obtain ⟨r,hr,e⟩:=h1
 exact ⟨r,hr,e.trans (aD h2).symm⟩
theorem We {p:PV} (hR:sH p=true) {k:Nat} (hk:k<p.code.length) (h:Bb p k=true) {v:Int} (hv:0≤v∧v<uC p k) :
 tl (sO p (k+1)) v=if v=Bc p k∨v=Bd p k then (k:Int) else tl (sO p k) v:=by
 obtain ⟨⟨ha0,ha1⟩,hb0,hb1⟩:=Wd hR hk
 unfold tl
 rw [Ci h]
 show ((((sO p k).till.set (Bc p k).toNat (k:Int)).set (Bd p k).toNat (k:Int))++[-1])[v.toNat]?.getD default=_
 have hv1:v.toNat<(sO p k).till.length:=by have:=hv.2;unfold uC at this;omega
 rw [bB (by rw [aG,aG];exact hv1)]
 unfold uC at hb1 ha1 hv
 rw [yF (by rw [aG];exact hv),yF hv,cS ha0,cS hb0]
 by_cases e1:Bd p k=v
 · rw [aF e1,aF (.inr e1.symm)]
 rw [aD e1]
 by_cases e2:Bc p k=v
 · rw [aF e2,aF (.inl e2.symm)]
 rw [aD e2,aD (by rintro (h | h) <;> first | exact e2 h.symm | exact e1 h.symm)]
theorem XM {p:PV} {k:Nat} (h:Bb p k=true):tl (sO p (k+1)) (uC p k)=-1:=by
 unfold tl uC
 rw [Ci h]
 show ((((sO p k).till.set _ _).set _ _)++[-1])[((((sO p k).till.length:Nat)):Int).toNat]?.getD default=_
 rw [aE,bT (by rw [aG,aG];exact aH _),aG,aG,hJ]
 rfl
def OO (p:PV) (t:Nat) (v:Int):Prop:=Bb p t=true∧(v=Bc p t∨v=Bd p t)
theorem Jh {p:PV} (hR:sH p=true):∀ (k:Nat),k≤p.code.length→∀ v:Int,0≤v∧v<uC p k→tl (sO p k) v=-1∨∃ t:Nat,t<k∧tl (sO p k) v=t∧OO p t v
 | 0,_,v,hv=>by
   left
   show (List.replicate (p.ins.toNat+1) (-1:Int))[v.toNat]?.getD default=-1
   have:uC p 0=p.ins.toNat+1:=aI
   rw [eL,aF (by omega)];rfl
 | k+1,hk,v,hv=>by
   by_cases hn:Bb p k=true
   · rw [Jg hn] at hv
     by_cases hl:v<uC p k
     · rw [We hR sE hn ⟨hv.1,hl⟩]
       by_cases hd:v=Bc p k∨v=Bd p k
       · rw [aF hd];exact .inr ⟨k,by omega,rfl,hn,hd⟩
       rw [aD hd]
       rcases Jh hR k sE v ⟨hv.1,hl⟩ with h | ⟨t,h1,h2,h3⟩
       · exact .inl h
       exact .inr ⟨t,by omega,h2,h3⟩
     have:v=uC p k:=sE
     rw [this];exact .inl (XM hn)
   rw [Wa hn] at hv
   rw [Jf hn]
   rcases Jh hR k sE v hv with h | ⟨t,h1,h2,h3⟩
   · exact .inl h
   exact .inr ⟨t,by omega,h2,h3⟩
theorem FK {p:PV} (hR:sH p=true) {k:Nat} {v:Int} (hv:0≤v∧v<uC p k):∀ (j:Nat),k≤j→j≤p.code.length→tl (sO p k) v≤tl (sO p j) v
 | 0,h,_=>by rw [qP.1 h];exact kP _
 | j+1,h,hj=>by
   by_cases hk:k=j+1
   · rw [hk];exact kP _
   have h1:=FK hR hv j sE sE
   have hm:=Ae p (show k≤j by omega)
   by_cases hn:Bb p j=true
   · rw [We hR sE hn sE]
     split
     · rcases Jh hR k sE v hv with h2 | ⟨t,h2,h3,_⟩ <;> omega
     exact h1
   rw [Jf hn];exact h1
theorem FL (p:PV):∀ j,(vQ p j).till.length=uC p p.code.length
 | 0=>rfl
 | j+1=>by show ((vQ p j).till.set _ _).length=_;rw [aG];exact FL p j
theorem El (p:PV):∀ j,(vQ p j).held=(sO p p.code.length).held
 | 0=>rfl
 | j+1=>El p j
theorem Wf {p:PV} (hR:sH p=true) {v:Int} (hv:0≤v∧v<uC p p.code.length):∀ (j:Nat),j≤p.outs.length→
 (tl (vQ p j) v=tl (sO p p.code.length) v∨tl (vQ p j) v=p.code.length∧∃ r,(0≤r∧r<p.regs)∧tU p p.code.length r=v)∧
 (∀ i:Nat,i<j→tU p p.code.length (p.outs[((i:Nat):Int).toNat]?.getD default)=v→tl (vQ p j) v=p.code.length)
 | 0,_=>⟨.inl rfl,fun i hi=>by omega⟩
 | j+1,hj=>by
   obtain ⟨h1,h2⟩:=Wf hR hv j sE
   have hr:=Mz hR (show j<p.outs.length by omega)
   have hh:(vQ p j).held[(p.outs[(j:Int).toNat]?.getD default).toNat]?.getD default=tU p p.code.length (p.outs[(j:Int).toNat]?.getD default):=by unfold tU;rw [El]
   have hin:=Na hR (aH _) hr
   have e:tl (vQ p (j+1)) v=if tU p p.code.length (p.outs[(j:Int).toNat]?.getD default)=v then (p.code.length:Int) else tl (vQ p j) v:=by
    unfold tl
    show ((vQ p j).till.set _ _)[v.toNat]?.getD default=_
    rw [hh,yF (by rw [FL];exact hv),cS hin.1]
   by_cases hd:tU p p.code.length (p.outs[((j:Nat):Int).toNat]?.getD default)=v
   · rw [aF hd] at e
     exact ⟨.inr ⟨e,_,hr,hd⟩,fun _ _ _=>e⟩
   rw [aD hd] at e
   rw [e]
   refine ⟨h1,fun i hi hiv=>?_⟩
   by_cases hij:i=j
   · subst hij;exact absurd hiv hd
   exact h2 i sE hiv
def due (p:PV) (v:Int):Int:=tl (lifeP p) v
theorem XN {p:PV} (hR:sH p=true) {k:Nat} {v:Int} (hk:k≤p.code.length) (hv:0≤v∧v<uC p k):tl (sO p k) v≤due p v:=by
 have h1:=FK hR hv p.code.length hk (aH _)
 have hv2:0≤v∧v<uC p p.code.length:=⟨hv.1,by have:=Ae p hk;omega⟩
 unfold due lifeP
 rcases (Wf hR hv2 p.outs.length (aH _)).1 with h2 | ⟨h2,_⟩
 · rw [h2];exact h1
 rw [h2]
 rcases Jh hR p.code.length (aH _) v hv2 with h3 | ⟨t,h3,h4,_⟩ <;> omega
theorem Lc {p:PV} (hR:sH p=true) {k:Nat} (hk:k<p.code.length) {v:Int} (h:OO p k v):(k:Int)≤due p v:=by
 obtain ⟨hn,hd⟩:=h
 have hin:=Wd hR hk
 have hv:0≤v∧v<uC p k:=by rcases hd with h | h <;> rw [h] <;> first | exact hin.1 | exact hin.2
 have h1:=XN hR (k:=k+1) (v:=v) sE ⟨hv.1,by rw [Jg hn];omega⟩
 rw [We hR hk hn hv,aF hd] at h1
 exact h1
theorem FM {p:PV} (hR:sH p=true) {i:Nat} (hi:i<p.outs.length):due p (tU p p.code.length (p.outs[((i:Nat):Int).toNat]?.getD default))=p.code.length:=
 (Wf hR (Na hR (aH _) (Mz hR hi)) p.outs.length (aH _)).2 i hi rfl
theorem Wg {p:PV} (hR:sH p=true) {v:Int} (hv:0≤v∧v<uC p p.code.length):due p v=-1∨(∃ t:Nat,t<p.code.length∧due p v=t∧OO p t v)∨(due p v=p.code.length∧∃ r,(0≤r∧r<p.regs)∧tU p p.code.length r=v):=by
 unfold due lifeP
 rcases (Wf hR hv p.outs.length (aH _)).1 with h2 | h2
 · rw [h2]
   rcases Jh hR p.code.length (aH _) v hv with h | h
   · exact .inl h
   exact .inr (.inl h)
 exact .inr (.inr h2)
theorem Qe {p:PV} (hR:sH p=true) {k:Nat} (hk:k≤p.code.length) {v:Int} (hv:0≤v∧v<uC p k) (hd:(k:Int)≤due p v):∃ r,(0≤r∧r<p.regs)∧tU p k r=v:=by
 have hv2:0≤v∧v<uC p p.code.length:=⟨hv.1,by have:=Ae p hk;omega⟩
 rcases Wg hR hv2 with h | ⟨t,ht,h,hn,ha⟩ | ⟨h,r,hr,e⟩
 · omega
 · have h9:=ON hR ht
   have h8:∃ r,(0≤r∧r<p.regs)∧tU p t r=v:=by rcases ha with e | e <;> rw [e] <;> first | exact h9.1 | exact h9.2
   obtain ⟨r,hr,e⟩:=h8
   exact ⟨r,hr,(Fc hR hr t sE sE (by rw [e];exact hv.2)).trans e⟩
 exact ⟨r,hr,(Fc hR hr p.code.length hk (aH _) (by rw [e];exact hv.2)).trans e⟩
theorem Ld {p:PV} (hR:sH p=true) {k:Nat} (hk:k<p.code.length):Bb p k=zQ p (xT p k).to (k+1):=by
 have h1:=VM p hk
 have h2:=FE p p.code k
 unfold Bb
 rw [IN hR,aE]
 have h3:(rf p p.code)[k]?=((rf p p.code).drop k)[0]?:=by rw [kT,jU]
 rw [h3,h2,h1]
 rfl
theorem AQ {p:PV} (hR:sH p=true) {r:Int} (hr:0≤r∧r<p.regs):∀ (d j:Nat),j+d=p.code.length→zQ p r j=true→(j:Int)≤due p (tU p j r)
 | 0,j,hj,h=>by
   have hj':j=p.code.length:=sE
   subst hj'
   rw [Pq p r (aH _),aS] at h
   obtain ⟨i,hi,e⟩:=fL.1 h
   have:=FM hR hi
   rw [aE,aA hi,dK,e] at this
   omega
 | d+1,j,hj,h=>by
   have hjn:j<p.code.length:=sE
   have hcj:p.code[j]?.getD default=xT p j:=by unfold xT;rw [aE]
   rw [Mb p r hjn,hcj,qH,aU,aU,aS,←Ld hR hjn] at h
   rcases h with ⟨hn,ha⟩ | ⟨ht,hf⟩
   · refine Lc hR hjn ⟨hn,?_⟩
     unfold sS at ha
     split at ha
     · rename_i h34
       rcases iG.1 ha with e | ha
       · left;rw [e];rfl
       right
       rw [eQ.1 ha]
       exact (aF (by rw [My];exact h34)).symm
     split at ha
     · left;rw [eQ.1 ha];rfl
     cases ha
   have ih:=AQ hR hr d (j+1) sE hf
   have hne:¬(xT p j).to=r:=by simpa using ht
   by_cases hn:Bb p j=true
   · rw [Ek hR hjn hn hr,aD hne] at ih;omega
   rw [Wb hn] at ih;omega
theorem TT {p:PV} (hR:sH p=true) {k:Nat} (hk:k<p.code.length) (hn:Bb p k=true):((k+1:Nat):Int)≤due p (uC p k):=by
 have ht:=(tE (wW hR hk)).2.1
 have h1:=hn
 rw [Ld hR hk] at h1
 have h2:=AQ hR ht (p.code.length - (k+1)) (k+1) sE h1
 rw [Ek hR hk hn ht,aF rfl] at h2
 exact h2
theorem FN (p:PV) {k:Nat}:∀ (j:Nat),k<j→(sO p j).a[((k:Nat):Int).toNat]?.getD default=(sO p (k+1)).a[((k:Nat):Int).toNat]?.getD default∧(sO p j).b[((k:Nat):Int).toNat]?.getD default=(sO p (k+1)).b[((k:Nat):Int).toNat]?.getD default∧(sO p j).sets[((k:Nat):Int).toNat]?.getD default=(sO p (k+1)).sets[((k:Nat):Int).toNat]?.getD default
 | 0,h=>absurd h (Nat.not_lt_zero _)
 | j+1,h=>by
   by_cases hk:k=j
   · rw [hk];exact ⟨rfl,rfl,rfl⟩
   have ih:=FN p (k:=k) j sE
   by_cases hn:Bb p j=true
   · rw [Ci hn]
     refine ⟨?_,?_,?_⟩
     · show ((sO p j).a.set j _)[(k:Int).toNat]?.getD default=_
       rw [cC,aD (by omega)];exact ih.1
     · show ((sO p j).b.set j _)[(k:Int).toNat]?.getD default=_
       rw [cC,aD (by omega)];exact ih.2.1
     show ((sO p j).sets.set j _)[(k:Int).toNat]?.getD default=_
     rw [cC,aD (by omega)];exact ih.2.2
   rw [Jf hn];exact ih
theorem FO (p:PV):∀ j,(vQ p j).a=(sO p p.code.length).a∧(vQ p j).b=(sO p p.code.length).b∧(vQ p j).sets=(sO p p.code.length).sets
 | 0=>⟨rfl,rfl,rfl⟩
 | j+1=>FO p j
theorem Qf {l:List Int} {k:Nat} {x:Int} (h:k<l.length):(l.set k x)[((k:Nat):Int).toNat]?.getD default=x:=by
 rw [aE,List.getElem?_set_self h];rfl
theorem OP {p:PV} (hR:sH p=true) {k:Nat} (hk:k<p.code.length) (hn:Bb p k=true) :
 (lifeP p).a[((k:Nat):Int).toNat]?.getD default=Bc p k∧(lifeP p).b[((k:Nat):Int).toNat]?.getD default=Bd p k∧(lifeP p).sets[((k:Nat):Int).toNat]?.getD default=uC p k:=by
 obtain ⟨o1,o2,o3⟩:=FO p p.outs.length
 obtain ⟨k1,k2,k3⟩:=FN p p.code.length hk
 have ok:=wZ hR k sE
 unfold lifeP
 rw [o1,o2,o3,k1,k2,k3,Ci hn]
 exact ⟨Qf (by rw [ok.al];exact hk),Qf (by rw [ok.bl];exact hk),Qf (by rw [ok.sl];exact hk)⟩
theorem DE:∀ (n:Nat) (f:Nat→Nat) (m:Nat),(∀ i,i<m→f i<n)→(∀ i j,i<m→j<m→f i=f j→i=j)→m≤n
 | 0,f,m,h,_=>by
   cases m with
   | zero=>exact aH _
   | succ m=>exact absurd (h 0 sE) (Nat.not_lt_zero _)
 | n+1,f,m,h,hi=>by
   by_cases hx:∃ i,i<m∧f i=n
   · obtain ⟨a,ha,hfa⟩:=hx
     have:=DE n (fun i=>if i<a then f i else f (i+1)) (m - 1) (fun i hm=>by
      show (if i<a then f i else f (i+1))<n
      split
      · have h1:=h i sE
        have h2:f i≠n:=fun e=>by have:=hi i a sE ha (e.trans hfa.symm);omega
        omega
      · have h1:=h (i+1) sE
        have h2:f (i+1)≠n:=fun e=>by have:=hi (i+1) a sE ha (e.trans hfa.symm);omega
        omega) (fun i j hi' hj' e=>by
      have e:(if i<a then f i else f (i+1))=(if j<a then f j else f (j+1)):=e
      split at e <;> split at e
      · exact hi i j sE sE e
      · have:=hi i (j+1) sE sE e;omega
      · have:=hi (i+1) j sE sE e;omega
      have:=hi (i+1) (j+1) sE sE e;omega)
     omega
   have:=DE n f m (fun i hm=>by
    have h1:=h i hm
    have h2:f i≠n:=fun e=>hx ⟨i,hm,e⟩
    omega) hi
   omega
def xK (p:PV) (k:Nat) (v:Int):Prop:=(0≤v∧v<uC p k)∧(k:Int)≤due p v
def fr (s:Pl) (r:Int):Bool:=s.free[r.toNat]?.getD default
theorem Ga {l:List Bool} {k:Nat} {x:Bool} {r:Int} (hr:0≤r∧r<l.length):(l.set k x)[r.toNat]?.getD default=if (k:Int)=r then x else l[r.toNat]?.getD default:=by
 rw [cC]
 by_cases h:k=r.toNat
 · rw [aF h,aF (by omega),aF (by omega)];rfl
 rw [aD h,aD (by omega)]
theorem FP {p:PV} {k:Nat} {s:Pl} {v r:Int} (hs:PlOk s) (hr:0≤r∧r<s.free.length):fr (vC (lifeP p) k s v) r=(fr s r || decide (due p v=k∧stand s v=r)):=by
 have hv:=hs.ab v
 unfold fr vC
 by_cases h:(lifeP p).till[v.toNat]?.getD default=(k:Int)
 · rw [aF h]
   show (s.free.set _ true)[r.toNat]?.getD default=_
   rw [Ga hr,cS hv.1]
   by_cases e:stand s v=r
   · rw [aF e,cA ⟨h,e⟩,Bool.or_true]
   rw [aD e,bQ (fun x=>e x.2),Bool.or_false]
 rw [aD h,bQ (fun x=>h x.1),Bool.or_false]
theorem Wi {s:Pl} {v r:Int} (hr:0≤r∧r<(wD s v).free.length):fr (wD s v) r=if r=least s.free then false else fr s r:=by
 have hl:=zM s v
 have hle:=zL s.free
 unfold fr wD
 simp only
 by_cases h:least s.free<s.free.length
 · rw [aF h] at hl ⊢
   rw [Ga sE]
   by_cases e:r=least s.free
   · rw [aF e.symm,aF e]
   rw [aD (fun x=>e x.symm),aD e]
 rw [aD h] at hl ⊢
 by_cases e:r=least s.free
 · rw [aF e,bT sE,e,aE,show least s.free - s.free.length=0 by omega];rfl
 rw [aD e,bB sE]
theorem DF {l:List Bool} (h:least l<l.length):l[least l]?.getD default=true:=by
 rw [aA h]
 unfold least at h ⊢
 exact List.findIdx_getElem (w:=h)
theorem IX {l:List Bool} (h:¬least l<l.length) (r:Nat) (hr:r<l.length):l[r]?.getD default=false:=by
 have h1:l.findIdx (fun b=>b)=l.length:=by unfold least at h;have:=zL l;unfold least at this;omega
 rw [aA hr]
 exact (List.findIdx_eq_length.1 h1) _ (bI hr)
structure Occ (p:PV) (k:Nat) (s:Pl):Prop where
 ok:PlOk s
 i1:∀ v,xK p k v→fr s (stand s v)=false
 i2:∀ v w,xK p k v→xK p k w→stand s v=stand s w→v=w
 i3:∀ r:Int,0≤r∧r<s.free.length→fr s r=false→∃ v,xK p k v∧stand s v=r
 i5:(s.free.length:Int)≤p.regs
theorem Em {p:PV} (hR:sH p=true) {k:Nat} (hk:k<p.code.length) (hn:¬Bb p k=true) {v:Int}:xK p (k+1) v↔xK p k v:=by
 unfold xK
 rw [Wa hn]
 constructor
 · rintro ⟨h1,h2⟩;exact ⟨h1,by omega⟩
 rintro ⟨h1,h2⟩
 refine ⟨h1,?_⟩
 have hv2:0≤v∧v<uC p p.code.length:=⟨h1.1,by have:=Ae p (show k≤p.code.length by omega);omega⟩
 rcases Wg hR hv2 with h | ⟨t,ht,h,ha,_⟩ | ⟨h,_⟩
 · omega
 · by_cases e:t=k
   · subst e;exact absurd ha hn
   omega
 omega
theorem xZ {p:PV} (hR:sH p=true) {k:Nat} (hk:k<p.code.length) (hn:Bb p k=true) {v:Int}:xK p (k+1) v↔v=uC p k∨(xK p k v∧due p v≠k):=by
 have hnew:=TT hR hk hn
 unfold xK
 rw [Jg hn]
 constructor
 · rintro ⟨h1,h2⟩
   by_cases e:v=uC p k
   · exact .inl e
   exact .inr ⟨⟨by omega,by omega⟩,by omega⟩
 rintro (e | ⟨⟨h1,h2⟩,h3⟩)
 · subst e;exact ⟨by omega,hnew⟩
 exact ⟨by omega,by omega⟩
theorem Tn {p:PV} (hR:sH p=true) {k:Nat} (hk:k<p.code.length) (hn:Bb p k=true):xK p k (Bc p k)∧xK p k (Bd p k):=
 ⟨⟨(Wd hR hk).1,Lc hR hk ⟨hn,.inl rfl⟩⟩,⟨(Wd hR hk).2,Lc hR hk ⟨hn,.inr rfl⟩⟩⟩
theorem OQ {p:PV} (hR:sH p=true) {k:Nat} (hk:k<p.code.length) {v:Int} (ha:xK p k v) (hd:due p v=k):v=Bc p k∨v=Bd p k:=by
 have hv2:0≤v∧v<uC p p.code.length:=⟨ha.1.1,by have:=Ae p (show k≤p.code.length by omega);have:=ha.1.2;omega⟩
 rcases Wg hR hv2 with h | ⟨t,ht,h,_,h4⟩ | ⟨h,_⟩
 · omega
 · have e:t=k:=sE
   subst e;exact h4
 omega
def Bo (p:PV) (k:Nat) (s:Pl):Pl:=vC (lifeP p) k (vC (lifeP p) k s (Bc p k)) (Bd p k)
theorem Qg (p:PV) (k:Nat) (s:Pl):(Bo p k s).free.length=s.free.length:=by unfold Bo;rw [vZ,vZ]
theorem AR (p:PV) (k:Nat) (s:Pl) (w:Int):stand (Bo p k s) w=stand s w:=by unfold Bo;rw [zZ,zZ]
theorem ay {p:PV} {k:Nat} {s:Pl} (hs:PlOk s) {r:Int} (hr:0≤r∧r<s.free.length):fr (Bo p k s) r=(fr s r || decide (due p (Bc p k)=k∧stand s (Bc p k)=r) || decide (due p (Bd p k)=k∧stand s (Bd p k)=r)):=by
 unfold Bo
 rw [FP (Ad hs) (by rw [vZ];exact hr),FP hs hr,zZ]
theorem AS {p:PV} {k:Nat} {s:Pl} (hs:PlOk s) {r:Int} (hr:0≤r∧r<s.free.length):fr (Bo p k s) r=false↔fr s r=false∧¬(due p (Bc p k)=k∧stand s (Bc p k)=r)∧¬(due p (Bd p k)=k∧stand s (Bd p k)=r):=by
 rw [ay hs hr,Bool.or_eq_false_iff,Bool.or_eq_false_iff,pI,pI,and_assoc]
theorem left {p:PV} (hR:sH p=true) {k:Nat} (hk:k<p.code.length) (hn:Bb p k=true) {s:Pl} (h:Occ p k s) :
 (∀ v,xK p k v→due p v≠k→fr (Bo p k s) (stand s v)=false)∧(∀ r:Int,0≤r∧r<s.free.length→fr (Bo p k s) r=false→∃ v,xK p k v∧due p v≠k∧stand s v=r):=by
 obtain ⟨hA,hB⟩:=Tn hR hk hn
 refine ⟨fun v hv hd=>?_,fun r hr hf=>?_⟩
 · rw [AS h.ok (h.ok.ab v)]
   refine ⟨h.i1 v hv,fun e=>?_,fun e=>?_⟩
   · have:=h.i2 _ _ hA hv e.2;rw [this] at e;exact hd e.1
   have:=h.i2 _ _ hB hv e.2;rw [this] at e;exact hd e.1
 rw [AS h.ok hr] at hf
 obtain ⟨v,hv,e⟩:=h.i3 r hr hf.1
 refine ⟨v,hv,fun hd=>?_,e⟩
 rcases OQ hR hk hv hd with h1 | h1
 · rw [h1] at hd e;exact hf.2.1 ⟨hd,e⟩
 rw [h1] at hd e;exact hf.2.2 ⟨hd,e⟩
theorem TU {p:PV} (hR:sH p=true) {k:Nat} (hk:k<p.code.length) (hn:Bb p k=true) {s:Pl} (h:Occ p k s):Occ p (k+1) (wD (Bo p k s) (uC p k)):=by
 obtain ⟨l1,l2⟩:=left hR hk hn h
 have hok2:PlOk (Bo p k s):=Ad (Ad h.ok)
 have hlen:=zM (Bo p k s) (uC p k)
 have hle:=zL (Bo p k s).free
 have h2l:=Qg p k s
 have hst:∀ w,stand (wD (Bo p k s) (uC p k)) w=if w=uC p k then (least (Bo p k s).free:Int) else stand s w:=fun w=>by rw [He,AR]
 have hold:∀ v,xK p k v→v≠uC p k:=fun v hv e=>by have:=hv.1.2;omega
 have hne:∀ v,xK p k v→due p v≠k→stand s v≠least (Bo p k s).free:=fun v hv hd e=>by
  have h1:=l1 v hv hd
  have h3:=h.ok.ab v
  by_cases hlt:least (Bo p k s).free<(Bo p k s).free.length
  · have:=DF hlt
    unfold fr at h1
    rw [e,aE,this] at h1;cases h1
  omega
 have hgl:∀ r:Int,r<(Bo p k s).free.length→r<(wD (Bo p k s) (uC p k)).free.length:=fun r hr=>by rw [hlen];split <;> omega
 have hrr:(least (Bo p k s).free:Int)<(wD (Bo p k s) (uC p k)).free.length:=by rw [hlen];split <;> omega
 refine ⟨FI hok2 _,fun v hv=>?_,fun v w hv hw e=>?_,fun r hr hf=>?_,?_⟩
 · rw [hst]
   rcases (xZ hR hk hn).1 hv with e | ⟨ha,hd⟩
   · rw [aF e,Wi ⟨by omega,hrr⟩,aF rfl]
   rw [aD (hold v ha)]
   have h3:=h.ok.ab v
   rw [Wi ⟨h3.1,hgl _ sE⟩,aD (hne v ha hd)]
   exact l1 v ha hd
 · rw [hst,hst] at e
   rcases (xZ hR hk hn).1 hv with ev | ⟨ha,hd⟩ <;> rcases (xZ hR hk hn).1 hw with ew | ⟨ha',hd'⟩
   · rw [ev,ew]
   · rw [aF ev,aD (hold w ha')] at e;exact absurd e.symm (hne w ha' hd')
   · rw [aD (hold v ha),aF ew] at e;exact absurd e (hne v ha hd)
   rw [aD (hold v ha),aD (hold w ha')] at e;exact h.i2 v w ha ha' e
 · by_cases e:r=least (Bo p k s).free
   · exact ⟨uC p k,(xZ hR hk hn).2 (.inl rfl),by rw [hst,aF rfl,e]⟩
   rw [Wi hr,aD e] at hf
   have hr2:r<s.free.length:=by rw [hlen] at hr;split at hr <;> omega
   obtain ⟨v,ha,hd,hs⟩:=l2 r ⟨hr.1,hr2⟩ hf
   exact ⟨v,(xZ hR hk hn).2 (.inr ⟨ha,hd⟩),by rw [hst,aD (hold v ha)];exact hs⟩
 rw [hlen]
 split
 · rw [h2l];exact h.i5
 rename_i hlt
 obtain ⟨f1,f2,f3,_⟩:=sK hR
 have hto:=(tE (wW hR hk)).2.1
 have key:∀ r:Nat,r<s.free.length→∃ q:Nat,q<p.regs.toNat∧∃ v,stand s v=r∧tU p (k+1) q=v∧v<uC p k:=fun r hr=>by
  have hf:fr (Bo p k s) (r:Int)=false:=by unfold fr;rw [aE];exact IX hlt r sE
  obtain ⟨v,ha,hd,hs⟩:=l2 r sE hf
  have ha2:=(xZ hR hk hn).2 (.inr ⟨ha,hd⟩)
  obtain ⟨q,hq,e⟩:=Qe hR (show k+1≤p.code.length by omega) ha2.1 ha2.2
  exact ⟨q.toNat,by omega,v,hs,by rw [cS hq.1];exact e,ha.1.2⟩
 have hm:=DE p.regs.toNat (fun r=>if hr:r<s.free.length then Classical.choose (key r hr) else (xT p k).to.toNat) (s.free.length+1) (fun i hi=>by
  show (if hr:i<s.free.length then _ else _)<_
  split
  · rename_i hr;exact (iB (key i hr)).1
  · omega) (fun i j hi hj e=>by
  have e:(if hr:i<s.free.length then Classical.choose (key i hr) else (xT p k).to.toNat)=(if hr:j<s.free.length then Classical.choose (key j hr) else (xT p k).to.toNat):=e
  have hnew:tU p (k+1) (((xT p k).to.toNat:Nat):Int)=uC p k:=by rw [cS hto.1,Ek hR hk hn hto,aF rfl]
  split at e <;> split at e
  · rename_i h1 h3
    obtain ⟨_,v,a1,a2,a3⟩:=iB (key i h1)
    obtain ⟨_,w,b1,b2,b3⟩:=iB (key j h3)
    rw [e,b2] at a2
    rw [←a2,b1] at a1
    omega
  · rename_i h1 h3
    obtain ⟨_,v,a1,a2,a3⟩:=iB (key i h1)
    rw [e,hnew] at a2
    omega
  · rename_i h1 h3
    obtain ⟨_,w,b1,b2,b3⟩:=iB (key j h3)
    rw [←e,hnew] at b2
    omega
  omega)
 rw [h2l];omega
theorem To {p:PV} {r:Int} (hr:0≤r∧r<p.regs):tU p 0 r=min r p.ins:=by
 unfold tU
 show ((List.range p.regs.toNat).map fun (r:Nat)=>min (r:Int) p.ins)[r.toNat]?.getD default=_
 rw [bN,eR sE]
 show min ((r.toNat:Nat):Int) p.ins=_
 rw [cS hr.1]
theorem Tp (p:PV):uC p 0=p.ins.toNat+1:=aI
theorem AT {l:Life} {s:Pl} {n:Nat} (hl:s.free.length=n) (h:∀ v:Int,0≤v∧v<n→stand s v=v∧fr s v=decide (tl l v<0)) (v:Int) (hv:0≤v∧v<n+1) :
 stand (La s n (l.till[((n:Nat):Int).toNat]?.getD default)) v=v∧fr (La s n (l.till[((n:Nat):Int).toNat]?.getD default)) v=decide (tl l v<0):=by
 have h1:stand (La s n (l.till[(n:Int).toNat]?.getD default)) v=if v=n then (s.free.length:Int) else stand s v:=Lb s _ v _ _
 rw [h1]
 by_cases e:v=n
 · subst e
   rw [aF rfl]
   refine ⟨by omega,?_⟩
   unfold fr
   show (s.free++[_])[(n:Int).toNat]?.getD default=_
   rw [aE,bT sE,hl,hJ]
   rfl
 rw [aD e]
 obtain ⟨h2,h3⟩:=h v sE
 refine ⟨h2,?_⟩
 rw [←h3]
 unfold fr
 show (s.free++[_])[v.toNat]?.getD default=_
 rw [bB sE]
theorem Qh (l:Life):∀ (n:Nat) (v:Int),0≤v∧v<n→stand (zK l n) v=v∧fr (zK l n) v=decide (tl l v<0)
 | 0,v,h=>sE
 | n+1,v,h=>AT (Ac l n) (Qh l n) v sE
theorem Tq {p:PV} (h1:1≤p.ins):(((zR p (lifeP p)).free.length:Int)=p.ins∨(((zR p (lifeP p)).free.length:Int)=p.ins+1∧0≤due p p.ins))∧(0≤due p p.ins→((zR p (lifeP p)).free.length:Int)=p.ins+1)∧
 ∀ v:Int,0≤v∧v<(zR p (lifeP p)).free.length→stand (zR p (lifeP p)) v=v∧fr (zR p (lifeP p)) v=decide (due p v<0):=by
 have hl:=Ac (lifeP p) p.ins.toNat
 have hs:=Qh (lifeP p) p.ins.toNat
 unfold zR
 by_cases hd:0≤(lifeP p).till[p.ins.toNat]?.getD default
 · rw [aF hd]
   have hl2:(La (zK (lifeP p) p.ins.toNat) p.ins ((lifeP p).till[p.ins.toNat]?.getD default)).free.length=p.ins.toNat+1:=by
    show ((zK (lifeP p) p.ins.toNat).free++[_]).length=_
    rw [aC,hl];rfl
   rw [hl2]
   refine ⟨.inr ⟨by omega,hd⟩,fun _=>by omega,fun v hv=>?_⟩
   have:=AT hl hs v sE
   rw [aE,cS (by omega:0≤p.ins)] at this
   exact this
 rw [aD hd,hl]
 refine ⟨.inl sE,fun h=>absurd h hd,fun v hv=>hs v sE⟩
theorem OR {p:PV} (hR:sH p=true):Occ p 0 (zR p (lifeP p)):=by
 obtain ⟨f1,f2,f3,_⟩:=sK hR
 obtain ⟨g1,g2,g3⟩:=Tq f1
 have hz:=Tp p
 have hin:∀ v,xK p 0 v→0≤v∧v<(zR p (lifeP p)).free.length:=fun v hv=>by
  have h1:=hv.1
  have h2:=hv.2
  by_cases e:v=p.ins
  · subst e;have:=g2 h2;omega
  rcases g1 with g1 | g1 <;> omega
 refine ⟨(Fb f1 _).1,fun v hv=>?_,fun v w hv hw e=>?_,fun r hr hf=>?_,?_⟩
 · rw [(g3 v (hin v hv)).1,(g3 v (hin v hv)).2]
   have:=hv.2
   exact bQ sE
 · rw [(g3 v (hin v hv)).1,(g3 w (hin w hw)).1] at e;exact e
 · have h1:=(g3 r hr).2
   rw [hf] at h1
   have h2:=mL h1.symm
   exact ⟨r,⟨⟨hr.1,by rcases g1 with g1 | g1 <;> omega⟩,by omega⟩,(g3 r hr).1⟩
 rcases g1 with g1 | ⟨g1,g4⟩
 · omega
 obtain ⟨r,hr,e⟩:=Qe hR (aM _) (v:=p.ins) sE g4
 rw [To hr] at e
 omega
theorem Le {p:PV} (hR:sH p=true) {k:Nat} (hk:k<p.code.length) (hn:Bb p k=true) :
 tD p (k+1)=⟨wD (Bo p k (tD p k).s) (uC p k),max (tD p k).regs ((least (Bo p k (tD p k).s).free:Int)+1),
  (tD p k).code++[⟨(xT p k).op,least (Bo p k (tD p k).s).free,stand (tD p k).s (Bc p k),if 1<(sS (xT p k)).length then stand (tD p k).s (Bd p k) else (xT p k).b,(xT p k).c⟩]⟩:=by
 obtain ⟨h1,h2,h3⟩:=OP hR hk hn
 have e:tD p (k+1)=Hd (lifeP p) (tD p k) k (xT p k):=aF hn
 rw [e]
 unfold Hd
 simp only
 rw [h1,h2,h3]
 rfl
theorem AU {p:PV} {k:Nat} (hn:¬Bb p k=true):tD p (k+1)=tD p k:=aD hn
theorem En {p:PV} (hR:sH p=true):∀ k,k≤p.code.length→Occ p k (tD p k).s∧(tD p k).regs=(tD p k).s.free.length
 | 0,_=>by
   refine ⟨OR hR,?_⟩
   have:=(Fb (sK hR).1 (lifeP p)).2.1
   show max p.ins ((zR p (lifeP p)).free.length:Int)=((zR p (lifeP p)).free.length:Int)
   omega
 | k+1,hk=>by
   obtain ⟨h1,h2⟩:=En hR k sE
   by_cases hn:Bb p k=true
   · rw [Le hR sE hn]
     refine ⟨TU hR sE hn h1,?_⟩
     show max (tD p k).regs ((least (Bo p k (tD p k).s).free:Int)+1)=((wD (Bo p k (tD p k).s) (uC p k)).free.length:Int)
     have hle:=zL (Bo p k (tD p k).s).free
     have hl:=Qg p k (tD p k).s
     rw [zM,h2]
     split <;> omega
   rw [AU hn]
   refine ⟨⟨h1.ok,fun v hv=>h1.i1 v ((Em hR sE hn).1 hv),fun v w hv hw=>h1.i2 v w ((Em hR sE hn).1 hv) ((Em hR sE hn).1 hw),fun r hr hf=>?_,h1.i5⟩,h2⟩
   obtain ⟨v,hv,e⟩:=h1.i3 r hr hf
   exact ⟨v,(Em hR sE hn).2 hv,e⟩
theorem Fe {p:PV} (hR:sH p=true) {k:Nat}:∀ j,k≤j→j≤p.code.length→(tD p k).s.free.length≤(tD p j).s.free.length
 | 0,h,_=>by rw [qP.1 h];exact aH _
 | j+1,h,hj=>by
   by_cases e:k=j+1
   · rw [e];exact aH _
   have ih:=Fe hR j (by omega:k≤j) sE
   by_cases hn:Bb p j=true
   · rw [Le hR sE hn]
     show _≤(wD (Bo p j (tD p j).s) (uC p j)).free.length
     rw [zM,Qg]
     split <;> omega
   rw [AU hn];exact ih
theorem OS {i:Sl.Instr} {r r':Int} (h:sP i r=true) (hr:r≤r'):sP i r'=true:=by
 rw [tB] at h ⊢
 obtain ⟨⟨h1,h2,h3,h4,h5,h6⟩,h7⟩:=h
 refine ⟨⟨h1,h2,h3,by omega,h5,by omega⟩,?_⟩
 by_cases h34:i.op=3∨i.op=4
 · rw [aF h34] at h7 ⊢;exact ⟨h7.1,by omega,h7.2.2⟩
 rw [aD h34] at h7 ⊢;exact h7
theorem OT {i:Sl.Instr} {regs R:Int} (h:sP i regs=true) {t a b:Int} (ht:0≤t∧t<R) (ha:0≤a∧a<R) (hb:0≤b∧b<R) :
 sP ⟨i.op,t,a,if 1<(sS i).length then b else i.b,i.c⟩ R=true:=by
 rw [tB] at h ⊢
 obtain ⟨⟨h1,h2,h3,h4,h5,h6⟩,h7⟩:=h
 refine ⟨⟨h1,h2,ht.1,ht.2,ha.1,ha.2⟩,?_⟩
 by_cases h34:i.op=3∨i.op=4
 · rw [aF h34] at h7
   rw [aF ((My i).2 h34)]
   exact (aF h34).symm▸⟨hb.1,hb.2,h7.2.2⟩
 rw [aD h34] at h7
 rw [aD (fun e=>h34 ((My i).1 e))]
 exact (aD h34).symm▸h7
theorem Wj {p:PV} (hR:sH p=true):∀ k,k≤p.code.length→(∀ i∈(tD p k).code,sP i (tD p k).regs=true)∧(tD p k).code.length≤k
 | 0,_=>⟨fun i hi=>absurd hi (rX),aH _⟩
 | k+1,hk=>by
   obtain ⟨h1,h2⟩:=Wj hR k sE
   obtain ⟨o1,o2⟩:=En hR k sE
   obtain ⟨p1,p2⟩:=En hR (k+1) hk
   have hg:=Fe hR (k+1) (show k≤k+1 by omega) hk
   have hle:=zL (Bo p k (tD p k).s).free
   have h2l:=Qg p k (tD p k).s
   by_cases hn:Bb p k=true
   · have hm:=wW hR (show k<p.code.length by omega)
     have hA:=o1.ok.ab (Bc p k)
     have hB:=o1.ok.ab (Bd p k)
     have hreg:(tD p (k+1)).regs=max (tD p k).regs ((least (Bo p k (tD p k).s).free:Int)+1):=by rw [Le hR sE hn]
     have hcode:(tD p (k+1)).code=(tD p k).code++[⟨(xT p k).op,least (Bo p k (tD p k).s).free,stand (tD p k).s (Bc p k),if 1<(sS (xT p k)).length then stand (tD p k).s (Bd p k) else (xT p k).b,(xT p k).c⟩]:=by rw [Le hR sE hn]
     rw [hcode]
     refine ⟨fun i hi=>?_,by rw [aC];show _+1≤_;omega⟩
     rcases gW.1 hi with h | h
     · exact OS (h1 i h) sE
     rw [eQ.1 h]
     exact OT hm sE sE sE
   rw [AU hn];exact ⟨h1,by omega⟩
theorem AV {p:PV} (hR:sH p=true):sH (tA p)=true:=by
 obtain ⟨f1,f2,f3,f4,f5,f6,f7,f8⟩:=sK hR
 obtain ⟨o1,o2⟩:=En hR p.code.length (aH _)
 obtain ⟨c1,c2⟩:=Wj hR p.code.length (aH _)
 have hg:=Fe hR p.code.length (aM _) (aH _)
 have h0:=(Fb f1 (lifeP p)).2.1
 have h0':p.ins≤(tD p 0).s.free.length:=h0
 have h5:=o1.i5
 have hol:=Qc p
 have hlen:(tA p).outs.length=p.outs.length:=by show ((lifeP p).outs.map _).length=_;rw [aP];exact hol
 refine AE ⟨f1,?_,?_,?_,by omega,by omega⟩ ?_ c1
 · show p.ins≤(tD p p.code.length).regs;omega
 · show (tD p p.code.length).regs≤128;omega
 · show (tD p p.code.length).code.length≤_;omega
 intro r hr
 obtain ⟨v,_,rfl⟩:=dJ.1 (show r∈(lifeP p).outs.map _ from hr)
 have:=o1.ok.ab v
 show _∧_<(tD p p.code.length).regs
 omega
def rowAt (rs:List (List Int)) (r:Int):List Int:=rs[r.toNat]?.getD []
structure Sem (p:PV) (gs:List (List Int)) (k:Nat) (rs qs:List (List Int)) (E:Int→List Int):Prop where
 run:wC p gs k=some rs
 pack:xP (tD p k).code (uI (tA p) gs)=some qs
 rl:(rs.length:Int)=p.regs
 ql:(qs.length:Int)=(tA p).regs
 old:∀ r:Int,0≤r∧r<p.regs→zQ p r k=true→rowAt rs r=E (tU p k r)
 new:∀ v,xK p k v→rowAt qs (stand (tD p k).s v)=E v
theorem Wk {l:List (List Int)} {k:Nat} {x:List Int} {r:Int} (hr:0≤r∧r<l.length):rowAt (l.set k x) r=if (k:Int)=r then x else rowAt l r:=Ih hr
theorem OU {p:PV} {gs:List (List Int)} (hR:sH p=true) (hg:(gs.length:Int)=p.ins) :
 Sem p gs 0 (uI p gs) (uI (tA p) gs) (fun v=>if v<gs.length then rowAt gs v else List.replicate (gs[0]?.getD []).length 0):=by
 obtain ⟨f1,f2,f3,_⟩:=sK hR
 obtain ⟨g1,g2,g3⟩:=Tq f1
 have hq:=(En hR p.code.length (aH _)).2
 have hgr:=Fe hR p.code.length (aM _) (aH _)
 have hqr:(tA p).regs=(tD p p.code.length).regs:=rfl
 have hz:=Tp p
 have row:∀ (q:PV) (r:Int),0≤r∧r<q.regs→rowAt (uI q gs) r=if r<gs.length then rowAt gs r else List.replicate (gs[0]?.getD []).length 0:=fun q r hr=>by
  unfold rowAt
  rw [Bx sE]
  by_cases h:r<gs.length
  · rw [aF h,aF (by omega)]
  rw [aD h,aD (by omega)]
 refine ⟨rfl,rfl,by rw [vM];omega,by rw [vM];omega,fun r hr _=>?_,fun v hv=>?_⟩
 · rw [row p r hr,To hr]
   by_cases h:r<gs.length
   · rw [aF h]
     show _=if min r p.ins<_ then _ else _
     rw [show min r p.ins=r by omega,aF h]
   rw [aD h]
   show _=if min r p.ins<_ then _ else _
   rw [aD (by omega)]
 have h1:=hv.1
 have h2:=hv.2
 have hvf:v<(zR p (lifeP p)).free.length:=by
  by_cases e:v=p.ins
  · subst e;have:=g2 h2;omega
  rcases g1 with g1 | g1 <;> omega
 have h3:=(g3 v ⟨h1.1,hvf⟩).1
 have h3':stand (tD p 0).s v=v:=h3
 have hf0:(tD p 0).s.free.length=(zR p (lifeP p)).free.length:=rfl
 rw [h3',row (tA p) v ⟨h1.1,by rw [hqr,hq];omega⟩]
theorem OV {i:Sl.Instr} {regs:Int} (hm:sP i regs=true) {rs qs:List (List Int)} {t a b:Int} (ha:rowAt qs a=rowAt rs i.a) (hb:1<(sS i).length→rowAt qs b=rowAt rs i.b) :
 wQ ⟨i.op,t,a,if 1<(sS i).length then b else i.b,i.c⟩ qs=wQ i rs:=by
 rw [Ig,Ig]
 show SD i.op i.c (rowAt qs a) (rowAt qs (if 1<(sS i).length then b else i.b))=SD i.op i.c (rowAt rs i.a) (rowAt rs i.b)
 rw [ha]
 by_cases h2:1<(sS i).length
 · rw [aF h2,hb h2]
 rw [aD h2]
 exact Uv (fun e=>h2 ((My i).2 e)) _ _ _ _
theorem OW {p:PV} {gs:List (List Int)} (hR:sH p=true) {k:Nat} (hk:k<p.code.length) {rs qs:List (List Int)} {E:Int→List Int} (h:Sem p gs k rs qs E) {y:List Int} (hd:wQ (xT p k) rs=some y) :
 ∃ qs' E',Sem p gs (k+1) (rs.set (xT p k).to.toNat y) qs' E':=by
 have hm:=wW hR hk
 obtain ⟨m1,m2,m3,m4,_⟩:=tE hm
 have hcj:p.code[k]?.getD default=xT p k:=by unfold xT;rw [aE]
 have hstep:=fun r=>Mb p r hk
 have hneed:=Ld hR hk
 rw [hcj] at hstep
 have hrun:wC p gs (k+1)=some (rs.set (xT p k).to.toNat y):=Cp (x:=[]) h.run hd
 have hrl:((rs.set (xT p k).to.toNat y).length:Int)=p.regs:=by rw [aG];exact h.rl
 by_cases hn:Bb p k=true
 · obtain ⟨hA,hB⟩:=Tn hR hk hn
   obtain ⟨o1,o2⟩:=En hR k sE
   obtain ⟨p1,p2⟩:=En hR (k+1) sE
   have hq:=(En hR p.code.length (aH _)).2
   have hg0:=Fe hR p.code.length (show k≤p.code.length by omega) (aH _)
   have hg1:=Fe hR p.code.length (show k+1≤p.code.length by omega) (aH _)
   have hqr:(tA p).regs=(tD p p.code.length).s.free.length:=hq
   have hle:=zL (Bo p k (tD p k).s).free
   have h2l:=Qg p k (tD p k).s
   have hglen:=zM (Bo p k (tD p k).s) (uC p k)
   have hs':(tD p (k+1)).s=wD (Bo p k (tD p k).s) (uC p k):=by rw [Le hR hk hn]
   have hc':(tD p (k+1)).code=(tD p k).code++[⟨(xT p k).op,least (Bo p k (tD p k).s).free,stand (tD p k).s (Bc p k),if 1<(sS (xT p k)).length then stand (tD p k).s (Bd p k) else (xT p k).b,(xT p k).c⟩]:=by rw [Le hR hk hn]
   have hst:∀ w,stand (tD p (k+1)).s w=if w=uC p k then (least (Bo p k (tD p k).s).free:Int) else stand (tD p k).s w:=fun w=>by rw [hs',He,AR]
   have hlR:(least (Bo p k (tD p k).s).free:Int)<(tA p).regs:=by
    rw [hqr]
    have:(least (Bo p k (tD p k).s).free)<(tD p (k+1)).s.free.length:=by rw [hs',hglen];split <;> omega
    omega
   have hold:∀ v,xK p k v→v≠uC p k:=fun v hv e=>by have:=hv.1.2;omega
   have asked:∀ r,r∈sS (xT p k)→zQ p r k=true:=fun r hr=>by
    rw [hstep r,←hneed,hn,cA hr];rfl
   have haM:(xT p k).a∈sS (xT p k):=by
    unfold sS
    split
    · exact bF
    exact bF
   have eA:rowAt qs (stand (tD p k).s (Bc p k))=rowAt rs (xT p k).a:=by
    rw [h.new _ hA,h.old _ m3 (asked _ haM)];rfl
   have eB:1<(sS (xT p k)).length→rowAt qs (stand (tD p k).s (Bd p k))=rowAt rs (xT p k).b:=fun h2=>by
    have hbM:(xT p k).b∈sS (xT p k):=by
     unfold sS;rw [aF (Ky h2)];exact aY _ bF
    rw [h.new _ hB,h.old _ (m4 (Ky h2)) (asked _ hbM)]
    show E (Bd p k)=E _
    congr 1
    exact aF h2
   refine ⟨qs.set (least (Bo p k (tD p k).s).free) y,fun v=>if v=uC p k then y else E v,hrun,?_,hrl,by rw [aG];exact h.ql,fun r hr hf=>?_,fun v hv=>?_⟩
   · rw [hc',By,h.pack]
     show (wQ _ qs).map _=_
     rw [OV hm eA eB,hd]
     rfl
   · have hrow:rowAt (rs.set (xT p k).to.toNat y) r=if (((xT p k).to.toNat:Nat):Int)=r then y else rowAt rs r:=Wk (by rw [h.rl];exact hr)
     rw [hrow,cS m2.1,Ek hR hk hn hr]
     by_cases e:(xT p k).to=r
     · rw [aF e,aF e,aF rfl]
     rw [aD e,aD e]
     have hin:=Na hR (show k≤p.code.length by omega) hr
     rw [aD (by omega)]
     refine h.old r hr ?_
     rw [hstep r,hf,bQ e]
     simp
   have hsb:=p1.ok.ab v
   rw [Wk ⟨hsb.1,by rw [h.ql,hqr];omega⟩,hst]
   rcases (xZ hR hk hn).1 hv with e | ⟨ha,hdv⟩
   · rw [aF e,aF rfl,aF e]
   have e:=hold v ha
   rw [aD e,aD e]
   have hne:¬((least (Bo p k (tD p k).s).free:Int)=stand (tD p k).s v):=fun x=>by
    have h9:=p1.i2 v (uC p k) hv ((xZ hR hk hn).2 (.inl rfl)) (by rw [hst,hst,aD e,aF rfl];exact x.symm)
    exact e h9
   rw [aD hne]
   exact h.new v ha
 refine ⟨qs,E,hrun,by rw [AU hn];exact h.pack,hrl,h.ql,fun r hr hf=>?_,fun v hv=>?_⟩
 · have hne:¬(xT p k).to=r:=fun e=>by subst e;rw [←hneed] at hf;exact hn hf
   have hrow:rowAt (rs.set (xT p k).to.toNat y) r=if (((xT p k).to.toNat:Nat):Int)=r then y else rowAt rs r:=Wk (by rw [h.rl];exact hr)
   rw [hrow,cS m2.1,aD hne,Wb hn]
   refine h.old r hr ?_
   rw [hstep r,hf,bQ hne]
   simp
 rw [AU hn];exact h.new v ((Em hR hk hn).1 hv)
theorem FQ {p:PV} {gs:List (List Int)} (hR:sH p=true) (hg:(gs.length:Int)=p.ins) {rn:List (List Int)} (hr:wC p gs p.code.length=some rn):∀ k,k≤p.code.length→∃ rs qs E,Sem p gs k rs qs E
 | 0,_=>⟨_,_,_,OU hR hg⟩
 | k+1,hk=>by
   obtain ⟨rs,qs,E,h⟩:=FQ hR hg hr k sE
   cases hd:wQ (xT p k) rs with
   | none =>
     have h1:wC p gs (k+1)=none:=by
      unfold wC;rw [h.run];simp only [eF]
      show (wQ (xT p k) rs).map _=none
      rw [hd];rfl
     have h2:=Gg h1 (p.code.length - (k+1))
     rw [show k+1+(p.code.length - (k+1))=p.code.length by omega,hr] at h2
     cases h2
   | some y =>
     obtain ⟨qs',E',h'⟩:=OW hR sE h hd
     exact ⟨_,_,_,h'⟩
theorem Hf (p:PV):∀ j,j≤p.outs.length→(vQ p j).outs=(p.outs.take j).map (tU p p.code.length)
 | 0,_=>by rw [cM];exact zJ p _
 | j+1,hj=>by
   show (vQ p j).outs++[(vQ p j).held[_]?.getD default]=_
   rw [Hf p j sE,El,mY (by omega:j<p.outs.length),jP,aE,aA (by omega:j<p.outs.length)]
   rfl
theorem Wm {p:PV} {gs os:List (List Int)} (hR:sH p=true) (hg:(gs.length:Int)=p.ins) (h:sQ p gs=some os):sQ (tA p) gs=some os:=by
 obtain ⟨f1,f2,f3,f4,f5,f6,f7,f8⟩:=sK hR
 unfold sQ at h
 obtain ⟨rn,h1,h2⟩:=iL.1 h
 obtain ⟨rs,qs,E,hs⟩:=FQ hR hg h1 p.code.length (aH _)
 have e:rs=rn:=by have:=hs.run;rw [h1] at this;exact (jD this).symm
 subst e
 have hp:wC (tA p) gs (tA p).code.length=some qs:=by
  rw [xQ _ _ _ (aH _),bC]
  exact hs.pack
 unfold sQ
 rw [hp,←h2]
 show some (wG (tA p) qs)=some (wG p rs)
 congr 1
 have ho:(lifeP p).outs=p.outs.map (tU p p.code.length):=by
  unfold lifeP
  rw [Hf p _ (aH _),bC]
 show ((lifeP p).outs.map (stand (tD p p.code.length).s)).map _=p.outs.map _
 rw [ho,iW,iW]
 refine fT fun r hr=>?_
 have hin:=f7 r hr
 obtain ⟨i,hi,hri⟩:=fL.1 hr
 have hdue:=FM hR hi
 rw [aE,aA hi,dK,hri] at hdue
 have hal:xK p p.code.length (tU p p.code.length r):=⟨Na hR (aH _) hin,by omega⟩
 have hf:zQ p r p.code.length=true:=by rw [Pq p r (aH _)];exact cA hr
 show rowAt qs (stand (tD p p.code.length).s (tU p p.code.length r))=rowAt rs r
 rw [hs.new _ hal,hs.old r hin hf]
theorem Lf {N:Nat}:∀ (l:List Sl.Instr) (rs:List (List Int)),Flat N rs→(∀ i∈l,Ov rs.length i)→
 (∀ r',xP l rs=some r'→Flat N r'∧r'.length=rs.length∧∀ j,j<N→vS l (Bq j rs)=some (Bq j r'))∧(xP l rs=none→∃ j,j<N∧vS l (Bq j rs)=none)
 | [],rs,he,_=>⟨fun r' h=>by cases h;exact ⟨he,rfl,fun j _=>rfl⟩,fun h=>by cases h⟩
 | i :: l,rs,he,hi=>by
   obtain ⟨h1,h2⟩:=Vh he (hi i tR).1 (hi i tR).2
   unfold xP vS
   cases hd:wQ i rs with
   | none =>
     refine ⟨fun r' h=>(by cases h),fun _=>?_⟩
     obtain ⟨j,hj,hz⟩:=h2 hd
     exact ⟨j,hj,by rw [hz];rfl⟩
   | some x =>
     obtain ⟨hx,hc⟩:=h1 x hd
     obtain ⟨g1,g2⟩:=Lf l (rs.set i.to.toNat x) (flat_set he hx) (fun q hq=>by rw [aG];exact hi q (by simp [hq]))
     refine ⟨fun r' h=>?_,fun h=>?_⟩
     · obtain ⟨k1,k2,k3⟩:=g1 r' h
       refine ⟨k1,by rw [k2,aG],fun j hj=>?_⟩
       rw [hc j hj]
       show vS l ((Bq j rs).set i.to.toNat (x[j]?.getD 0))=_
       rw [←Mq];exact k3 j hj
     obtain ⟨j,hj,hz⟩:=g2 h
     refine ⟨j,hj,?_⟩
     rw [hc j hj]
     show vS l ((Bq j rs).set i.to.toNat (x[j]?.getD 0))=_
     rw [←Mq];exact hz
theorem Gb {p q:PV} {gs os:List (List Int)} {N:Nat} (hR:sH p=true) (hQ:sH q=true) (hi:q.ins=p.ins) (ho:q.outs.length=p.outs.length) (hg:(gs.length:Int)=p.ins) (hN:Flat N gs)
 (hans:∀ zs ys:List Int,(zs.length:Int)=p.ins→xH p zs=some ys→xH q zs=some ys) (h:sQ p gs=some os):sQ q gs=some os:=by
 obtain ⟨f1,f2,f3,f4,f5,f6,f7,f8⟩:=sK hR
 obtain ⟨k1,k2,k3,k4,k5,k6,k7,k8⟩:=sK hQ
 have hfp:=Ev (p:=p) hN sE
 have hfq:=Ev (p:=q) hN sE
 unfold sQ at h ⊢
 rw [xQ p gs _ (aH _),bC] at h
 rw [xQ q gs _ (aH _),bC]
 obtain ⟨r',hr',rfl⟩:=iL.1 h
 obtain ⟨p1,p2,p3⟩:=(Lf p.code (uI p gs) hfp (fun i hi=>Vi (f8 i hi) DN)).1 r' hr'
 have hcol:∀ j,j<N→xH q (Bq j gs)=some (vK p (Bq j r')):=fun j hj=>by
  refine hans _ _ (by rw [yI];exact hg) ?_
  unfold xH
  rw [vV p _ _ (aH _),bC,←Is sE,p3 j hj];rfl
 have hq:=Lf q.code (uI q gs) hfq (fun i hi=>Vi (k8 i hi) DN)
 cases hrq:xP q.code (uI q gs) with
 | none =>
   obtain ⟨j,hj,hz⟩:=hq.2 hrq
   have h9:=hcol j hj
   unfold xH at h9
   rw [vV q _ _ (aH _),bC,←Is sE,hz] at h9
   cases h9
 | some s' =>
   obtain ⟨q1,q2,q3⟩:=hq.1 s' hrq
   show some (wG q s')=some (wG p r')
   congr 1
   unfold wG
   apply fB
   · rw [aP,aP,ho]
   intro k g1 g2
   rw [aP] at g1 g2
   rw [fA,fA]
   have hrp:=f7 p.outs[k] (bI g2)
   have hrq2:=k7 q.outs[k] (bI g1)
   have lp:=yJ p1 (k:=p.outs[k].toNat) (by rw [p2,vM];omega)
   have lq:=yJ q1 (k:=q.outs[k].toNat) (by rw [q2,vM];omega)
   apply fB
   · omega
   intro j j1 j2
   have h9:=hcol j sE
   unfold xH at h9
   rw [vV q _ _ (aH _),bC,←Is sE,q3 j sE] at h9
   have h10:vK q (Bq j s')=vK p (Bq j r'):=by
    have:=iL.1 h9
    obtain ⟨z,e1,e2⟩:=this
    cases e1;exact e2
   unfold vK at h10
   have h11:=congrArg (fun l:List Int=>l[k]?) h10
   simp only [bN,aA g1,aA g2,fO,bY,Ef] at h11
   rw [aA j1,aA j2] at h11
   exact h11
theorem AW {p:PV} {gs os:List (List Int)} {N:Nat} (hR:sH p=true) (hg:(gs.length:Int)=p.ins) (hN:Flat N gs) (h:sQ p gs=some os):sQ (zI p) gs=some os:=
 Gb hR (Pz hR) rfl rfl hg hN (fun zs ys hz h9=>by rw [OI hR hz];exact h9) h
def VO (A:List Bool) (r s:List Int):Prop:=r.length=s.length∧∀ k:Nat,A[k]?.getD default=true→r[k]?.getD 0=s[k]?.getD 0
theorem IY {i:Sl.Instr} {r s:List Int} (ha:r[i.a.toNat]?.getD 0=s[i.a.toNat]?.getD 0) (hb:i.op=3∨i.op=4→r[i.b.toNat]?.getD 0=s[i.b.toNat]?.getD 0):wA i r=wA i s:=by
 unfold wA
 simp only [ha]
 by_cases h34:i.op=3∨i.op=4
 · rw [hb h34]
 have h3:¬i.op=3:=fun e=>h34 (.inl e)
 have h4:¬i.op=4:=fun e=>h34 (.inr e)
 simp only [h3,h4,jR]
theorem DG (p:PV) (i:Sl.Instr) (l:List Sl.Instr):Ix p (i :: l)=if (nf p l).1[i.to.toNat]?.getD default=true∧¬vU i then i :: Ix p l else Ix p l:=by
 by_cases hc:(nf p l).1[i.to.toNat]?.getD default=true
 · have e:(nf p (i :: l)).2=true :: (nf p l).2:=by simp only [nf];rw [aF hc]
   unfold Ix
   rw [e,mM]
   by_cases hd:vU i
   · rw [aD (fun h=>h.2 hd),List.filterMap_cons_none (Hb (fun h=>h.2 hd))]
   rw [aF ⟨hc,hd⟩,List.filterMap_cons_some (Pn ⟨rfl,hd⟩)]
 have e:(nf p (i :: l)).2=false :: (nf p l).2:=by simp only [nf];rw [aD hc]
 unfold Ix
 rw [e,mM,aD (fun h=>hc h.1),List.filterMap_cons_none (Hb (fun h=>by cases h.1))]
theorem Ji {p:PV} (hm:∀ i∈p.code,sP i p.regs=true):∀ (l:List Sl.Instr),(∀ i∈l,i∈p.code)→∀ (r s r':List Int),(r.length:Int)=p.regs→VO (nf p l).1 r s→vS l r=some r'→∃ s',vS (Ix p l) s=some s'∧VO (nf p []).1 r' s'
 | [],_,r,s,r',_,h,h1=>by cases h1;exact ⟨s,rfl,h⟩
 | i :: l,hl,r,s,r',hlen,h,h1=>by
   have hmi:=hm i (hl i tR)
   obtain ⟨m1,m2,m3,m4,m5,m6,m7,m8⟩:=tE hmi
   have hA:((nf p l).1.length:Int)=p.regs:=by rw [(OA p l).1];omega
   unfold vS at h1
   obtain ⟨x,hx,h1⟩:=pM.1 h1
   obtain ⟨hl1,hag⟩:=h
   have hl':∀ j∈l,j∈p.code:=fun j hj=>hl j (by simp [hj])
   have hlen':((r.set i.to.toNat x).length:Int)=p.regs:=by rw [aG];exact hlen
   rw [DG]
   by_cases hasked:(nf p l).1[i.to.toNat]?.getD default=true
   · have e:(nf p (i :: l)).1=uU ((nf p l).1.set i.to.toNat false) (sS i):=by simp only [nf];rw [aF hasked]
     rw [e] at hag
     have hstep:∀ k:Nat,(nf p l).1[k]?.getD default=true→k≠i.to.toNat→r[k]?.getD 0=s[k]?.getD 0:=fun k hk hne=>by
      have hkA:k<(nf p l).1.length:=by
       rcases aK k (nf p l).1.length with h | h
       · exact h
       rw [bP h] at hk;cases hk
      refine hag k ?_
      have hg:=Pp hA hmi (r:=(k:Int)) sE
      rw [aE] at hg
      rw [hg,hk,bQ (show ¬i.to=(k:Int) by omega)]
      simp
     have hin:∀ q∈sS i,r[q.toNat]?.getD 0=s[q.toNat]?.getD 0:=fun q hq=>by
      have hqr:=Mx hmi q hq
      refine hag q.toNat ?_
      rw [Pp hA hmi hqr,cA hq,Bool.true_or]
     have haa:i.a∈sS i:=by
      unfold sS
      split
      · exact bF
      first | exact bF | (rw [aF m1];exact bF)
     have hd:=IY (hin _ haa) (fun h34=>hin _ UZ)
     by_cases hno:vU i
     · rw [aD (fun h=>h.2 hno)]
       refine Ji hm l hl' (r.set i.to.toNat x) s r' hlen' ⟨by rw [aG];exact hl1,fun k hk=>?_⟩ h1
       rw [Ja]
       split
       · rename_i hkk
         obtain ⟨rfl,hk2⟩:=hkk
         have hxa:x=r[i.to.toNat]?.getD 0:=by
          obtain ⟨n1,n2⟩:=hno
          unfold wA at hx
          simp [n1] at hx
          rw [←hx,n2]
         rw [hxa]
         have:=hin i.a haa
         rw [←hno.2] at this
         exact this
       rename_i hkk
       refine hstep k hk (fun hk3=>hkk ⟨hk3.symm,?_⟩)
       omega
     rw [aF ⟨hasked,hno⟩]
     show ∃ s',((wA i s).bind fun x=>vS (Ix p l) (s.set i.to.toNat x))=some s'∧_
     rw [←hd,hx]
     refine Ji hm l hl' (r.set i.to.toNat x) (s.set i.to.toNat x) r' hlen' ⟨by rw [aG,aG];exact hl1,fun k hk=>?_⟩ h1
     rw [Ja,Ja]
     by_cases hkk:i.to.toNat=k
     · rw [aF ⟨hkk,by omega⟩,aF ⟨hkk,by omega⟩]
     rw [aD (fun h=>hkk h.1),aD (fun h=>hkk h.1)]
     exact hstep k hk (fun h=>hkk h.symm)
   rw [aD (fun h=>hasked h.1)]
   have e:(nf p (i :: l)).1=(nf p l).1:=by simp only [nf];rw [aD hasked]
   rw [e] at hag
   refine Ji hm l hl' (r.set i.to.toNat x) s r' hlen' ⟨by rw [aG];exact hl1,fun k hk=>?_⟩ h1
   rw [Ja,aD ?_]
   · exact hag k hk
   rintro ⟨rfl,_⟩
   exact hasked hk
theorem OX {p:PV} {zs os:List Int} (hR:sH p=true) (hz:(zs.length:Int)=p.ins) (h:xH p zs=some os):xH (zS p) zs=some os:=by
 obtain ⟨f1,f2,f3,f4,f5,f6,f7,f8⟩:=sK hR
 have hl:(tZ p zs).length=p.regs.toNat:=by unfold tZ;rw [aC,aI];omega
 unfold xH at h ⊢
 rw [vV p _ _ (aH _),bC] at h
 rw [vV (zS p) _ _ (aH _),bC]
 obtain ⟨r',hr',rfl⟩:=iL.1 h
 obtain ⟨s',hs',hag⟩:=Ji f8 p.code (fun i hi=>hi) (tZ p zs) (tZ p zs) r' sE ⟨rfl,fun k _=>rfl⟩ hr'
 rw [IM]
 show (vS (Ix p p.code) (tZ p zs)).map (vK (zS p))=_
 rw [hs']
 show some (vK p s')=some (vK p r')
 congr 1
 unfold vK
 apply fT
 intro q hq
 refine (hag.2 q.toNat ?_).symm
 show (uU (List.replicate p.regs.toNat false) p.outs)[q.toNat]?.getD default=true
 rw [Tf sE f7 (f7 q hq),cA hq]
theorem AX {p:PV} {gs os:List (List Int)} {N:Nat} (hR:sH p=true) (hg:(gs.length:Int)=p.ins) (hN:Flat N gs) (h:sQ p gs=some os):sQ (zS p) gs=some os:=
 Gb hR (Pm hR) rfl rfl hg hN (fun zs ys hz h9=>OX hR hz h9) h
def uW (m:Nat) (p:PV):PV:=if m % 3=0 then zI p else if m % 3=1 then xG p else zS p
def vT (p:PV):Nat→PV
 | 0=>p
 | k+1=>uW k (vT p k)
def Wn (m:Nat):ByteArray:=if m % 3=0 then ⟨#[102,111,108,100]⟩ else if m % 3=1 then ⟨#[115,104,97,114,101]⟩ else ⟨#[100,101,97,100]⟩
def Tr:ByteArray:=⟨#[112,97,99,107]⟩
def xL (p:PV):Nat:=((List.range 15).find? fun n=>decide (vT p (3*n+3)=vT p (3*n))).getD 15
def Cj (p:PV):Nat:=3*xL p+3
structure NP where
 name:ByteArray
 p:PV
def uS (p:PV):List NP:=(List.range (Cj p)).map (fun k=>⟨Wn k,vT p (k+1)⟩)++[⟨Tr,tA (vT p (Cj p))⟩]
theorem FR (p:PV):xL p≤15:=by
 unfold xL
 cases h:(List.range 15).find? fun n=>decide (vT p (3*n+3)=vT p (3*n)) with
 | none=>exact aH _
 | some n =>
   have:=List.mem_of_find?_eq_some h
   rw [iM] at this
   show n≤15
   omega
theorem OY (p:PV):xL p=15∨vT p (3*xL p+3)=vT p (3*xL p):=by
 unfold xL
 cases h:(List.range 15).find? fun n=>decide (vT p (3*n+3)=vT p (3*n)) with
 | none=>exact .inl rfl
 | some n =>
   have:=List.find?_some h
   exact .inr (gP this)
theorem OZ (p:PV) {n:Nat} (hn:n<xL p):¬vT p (3*n+3)=vT p (3*n):=by
 have h15:=FR p
 intro he
 unfold xL at hn
 cases h:(List.range 15).find? fun n=>decide (vT p (3*n+3)=vT p (3*n)) with
 | none =>
   rw [h] at hn
   have hn15:n<15:=hn
   rw [List.find?_eq_none] at h
   exact h n (by rw [iM];exact hn15) (by simpa using he)
 | some m =>
   rw [h] at hn
   have hn':n<m:=hn
   rw [List.find?_range_eq_some] at h
   have:=h.2.2 n hn'
   simp [he] at this
theorem Ax (p:PV):(uS p).length=Cj p+1:=by unfold uS;rw [aC,aP,bS];rfl
theorem Ts (p:PV) {k:Nat} (hk:k<Cj p):(uS p)[k]?=some ⟨Wn k,vT p (k+1)⟩:=by
 unfold uS
 rw [bB (by rw [aP,bS];exact hk),bN,eR hk];rfl
theorem yA (p:PV):(uS p)[Cj p]?=some ⟨Tr,tA (vT p (Cj p))⟩:=by
 unfold uS
 rw [bT (by rw [aP,bS];exact aH _),aP,bS,hJ];rfl
theorem Qi {p:PV} (h:sH p=true) (m:Nat):sH (uW m p)=true:=by
 unfold uW
 split
 · exact Pz h
 split
 · exact AC h
 exact Pm h
theorem xA {p:PV} (h:sH p=true):∀ k,sH (vT p k)=true
 | 0=>h
 | k+1=>Qi (xA h k) k
theorem IZ {p:PV} (h:sH p=true) (m:Nat):(uW m p).ins=p.ins∧(uW m p).outs.length=p.outs.length∧(uW m p).code.length≤p.code.length:=by
 unfold uW
 split
 · exact ⟨rfl,rfl,AJ p⟩
 split
 · exact ⟨rfl,by show (vL _ _).length=_;unfold vL;rw [aP],(Vu h _ (aH _)).2.1⟩
 exact ⟨rfl,rfl,Gw p _⟩
theorem Jj {p:PV} (h:sH p=true):∀ k,(vT p k).ins=p.ins∧(vT p k).outs.length=p.outs.length∧(vT p k).code.length≤p.code.length
 | 0=>⟨rfl,rfl,aH _⟩
 | k+1=>by
   obtain ⟨e1,e2,e3⟩:=Jj h k
   obtain ⟨g1,g2,g3⟩:=IZ (xA h k) k
   show (uW k (vT p k)).ins=_∧_∧_
   exact ⟨by rw [g1,e1],by show (uW k (vT p k)).outs.length=_;rw [g2,e2],by show (uW k (vT p k)).code.length≤_;omega⟩
theorem Hg {p:PV} {gs os:List (List Int)} {N:Nat} (hR:sH p=true) (hg:(gs.length:Int)=p.ins) (hN:Flat N gs) (h:sQ p gs=some os):∀ k,sQ (vT p k) gs=some os
 | 0=>h
 | k+1=>by
   have ih:=Hg hR hg hN h k
   have hk:=xA hR k
   have hi:=(Jj hR k).1
   show sQ (uW k (vT p k)) gs=_
   unfold uW
   split
   · exact AW hk (by rw [hi];exact hg) hN ih
   split
   · rw [Yn hk (by rw [hi];exact hg)];exact ih
   exact AX hk (by rw [hi];exact hg) hN ih
theorem AY {p:PV} (hR:sH p=true):(tA p).ins=p.ins∧(tA p).outs.length=p.outs.length∧(tA p).code.length≤p.code.length:=by
 refine ⟨rfl,?_,(Wj hR _ (aH _)).2⟩
 show ((lifeP p).outs.map _).length=_
 rw [aP]
 have:=Hf p p.outs.length (aH _)
 show (vQ p p.outs.length).outs.length=_
 rw [this,bC,aP]
theorem DH {p:PV} (hR:sH p=true) {k:Nat} {x:NP} (h:(uS p)[k]?=some x):sH x.p=true∧x.p.ins=p.ins∧x.p.outs.length=p.outs.length∧x.p.code.length≤p.code.length∧
 ∀ (gs os:List (List Int)) (N:Nat),(gs.length:Int)=p.ins→Flat N gs→sQ p gs=some os→sQ x.p gs=some os:=by
 have hlt:k<(uS p).length:=(bZ.1 h).1
 rw [Ax] at hlt
 rcases aK k (Cj p) with hk | hk
 · rw [Ts p hk] at h
   cases h
   obtain ⟨e1,e2,e3⟩:=Jj hR (k+1)
   exact ⟨xA hR _,e1,e2,e3,fun gs os N hg hN h=>Hg hR hg hN h _⟩
 have:k=Cj p:=sE
 subst this
 rw [yA] at h
 cases h
 obtain ⟨e1,e2,e3⟩:=Jj hR (Cj p)
 obtain ⟨g1,g2,g3⟩:=AY (xA hR (Cj p))
 refine ⟨AV (xA hR _),by rw [g1,e1],by rw [g2,e2],by show (tA _).code.length≤_;omega,fun gs os N hg hN h=>Wm (xA hR _) (by rw [e1];exact hg) (Hg hR hg hN h _)⟩
def cm (s:Pl) (bm bp:Nat) (a:Option Addr) (c:Nat) (junk:List Value):Hp:=
 [(0,some bp,.cells #[.map (some bm),.slice a s.free.length c] 140),(1,some bm,mapObj s.at_),(2,a.map (·.block),Row 4 s.free junk)]
theorem je (G:Imm) (p:PV) (ac ao:Option Addr) (cc co:Nat) (r:Int) :
 Does Tryz.prog 142 [.agg #[.int .i64 p.ins,.int .i64 p.regs,.slice ac p.code.length cc,.slice ao p.outs.length co],.int .i64 r] G [] (fun v G' Ho=>v=.int .i64 (min r p.ins)∧G'=G∧Ho=[]):=by
 refine D0 Tryz.func142 Tryz.ntmps142 fun w=>?_
 refine aJ 2 [] ?_
 refine dQ 0 fun b1=>?_
 refine aL 8 [0] ?_
 refine aO (Qy.min rfl rfl) ?_
 refine aR 4 [] ?_
 refine cP ?_
 refine ⟨?_,rfl,rfl⟩
 congr 1
 split <;> omega
theorem PB {l:List Bool} {k:Nat} (hk:k<l.length) (h:∀ j:Nat,j<k→l[j]?.getD default=false) (hb:l[k]?.getD default=true):least l=k:=by
 unfold least
 rw [List.findIdx_eq hk]
 rw [aA hk] at hb
 refine ⟨hb,fun j hj=>?_⟩
 have:=h j hj
 rw [aA sE] at this
 exact this
theorem DI {l:List Bool} (h:∀ j:Nat,j<l.length→l[j]?.getD default=false):least l=l.length:=by
 unfold least
 rw [List.findIdx_eq_length]
 intro x hx
 obtain ⟨j,hj,rfl⟩:=fL.1 hx
 have:=h j hj
 rw [aA hj] at this
 exact this
theorem c82 (G:Imm) (s:Pl) (bm bp:Nat) (a:Option Addr) (c:Nat) (junk:List Value) (v u:Int) (ho:OwnA a c s.free junk) (hl:s.free.length≤1048576) :
 Does Tryz.prog 82 [.pointer (some ⟨bp,0,none⟩),.int .i64 v,.int .i64 u] G (cm s bm bp a c junk) (fun r G' Ho=>∃ a' c' j',r=.tuple #[]∧OwnA a' c' (La s v u).free j'∧G'=G∧Ho=cm (La s v u) bm bp a' c' j'):=by
 refine D0 Tryz.func82 Tryz.ntmps82 fun w=>?_
 refine dF ?_
 refine cX [2,1,0] [(1,10)] T.mixed [[0],[1],[2],[3,0],[4],[5],[6],[7],[8,0],[9]] ?_
 refine bV 10 ?_
 refine Wl.mapUpdate 1 T.mp137 rfl rfl rfl rfl ?_
 refine eZ ?_
 refine nE 9 [0] ?_
 refine dY (α:=Bool) 3 [(Decidable.decide (u<0))] rfl T.sl138 T.el4 rfl rfl rfl rfl rfl fun b1=>?_
 refine jS (α:=Bool) 2 T.sl138 T.el4 (fE 3 rfl) fun a1 c1 junk1 ho1=>?_
 refine aR 4 [0] ?_
 refine lY [0,1,2] sN (jZ (.inl rfl) rfl  (lO 0 _) ?_)
 exact ⟨a1,c1,junk1,rfl,ho1,rfl,rfl⟩
theorem PC (s:Pl) (v:Int) (h:least s.free<s.free.length):wD s v=⟨Bt s.at_ v (least s.free),s.free.set (least s.free) false⟩:=by unfold wD;rw [aF h]
theorem TV (s:Pl) (v:Int) (h:¬least s.free<s.free.length):wD s v=⟨Bt s.at_ v (least s.free),s.free++[false]⟩:=by unfold wD;rw [aD h]
theorem c84 (G:Imm) (s:Pl) (bm bp:Nat) (a:Option Addr) (c:Nat) (junk:List Value) (v:Int) (ho:OwnA a c s.free junk) (hl:s.free.length≤1048576) (hm:mget s.at_ v=none) :
 Does Tryz.prog 84 [.pointer (some ⟨bp,0,none⟩),.int .i64 v] G (cm s bm bp a c junk) (fun r G' Ho=>∃ a' c' j',r=.int .i64 (least s.free)∧OwnA a' c' (wD s v).free j'∧G'=G∧Ho=cm (wD s v) bm bp a' c' j'):=by
 refine D0 Tryz.func84 Tryz.ntmps84 fun w=>?_
 refine bJ 5 [] ?_
 refine mH ?_
 refine bJ 15 [0] ?_
 refine gY (ι:=Nat) (fun k=>([(12,.int .i64 (k:Int)),(4,.int .i64 0),(11,.int .i64 (↑(List.length (Pl.free s)):Int)),(10,.slice a (List.length (Pl.free s)) c),(0,.pointer (some (Addr.mk bp 0 none))),(1,.int .i64 v)],[(0,some bp,.cells #[Go.Value.map (some bm),.slice a (List.length (Pl.free s)) c] 140),(1,some bm,Go.Sl.mapObj (κ:=Int) (Pl.at_ s)),(2,Option.map (fun x=>Go.Addr.block x) a,Row (α:=Bool) 4 (Pl.free s) (junk))])) (fun k=>k≤s.free.length∧∀ j:Nat,j<k→s.free[j]?.getD default=false) (fun k=>s.free.length - k) (0) (⟨aM _,fun j hj=>by omega⟩) fun k=>fun hk=>?_
 obtain ⟨hk1,hk2⟩:=hk
 rcases aK k s.free.length with hlt | hge
 · refine aJ 14 [1] ?_
   refine gX (α:=Bool) T.sl138 ?_
   refine mS 2 0 T.one4 ?_
   refine aZ 11 [] ?_
   refine kZ rfl (fun hc1=>?_) fun hc1=>?_
   refine bE 8 [] ?_
   rotate_left
   refine bJ 3 [] ?_
   refine cX [2,1,0] [(0,15),(2,15),(1,13),(1,11)] T.mixed [[0],[1],[2],[3,0],[4],[5],[6],[7],[8,0],[9],[10]] ?_
   refine bV 11 ?_
   refine Wl.mapEntry 1 rfl T.mp137 rfl rfl rfl sF ?_
   refine bD ?_
   refine dE [[12]] ?_
   refine bV 13 ?_
   refine rE 1 rfl rfl rfl rfl ?_
   refine bD ?_
   refine fH (α:=Bool) 14 T.sl138 ?_
   refine bV 15 ?_
   refine cU (z:=_) 2 T.size4 rfl rfl rfl sF sE rfl fun ho1=>?_
   refine eZ ?_
   refine dX 13 [] ?_
   refine iR ?_
   refine lY [0,1,2] sN (cK (.inr rfl) rfl (.tmp rfl) (lO 0 _) ?_)
   rotate_left
   · refine cL (k+1) ?_ ?_
     · refine ⟨hlt,fun j hj=>?_⟩
       by_cases hjk:j=k
       · subst hjk
         rw [aE] at hc1
         simpa using hc1
       exact hk2 j sE
     show s.free.length - (k+1)<s.free.length - k
     omega
   rw [aE] at hc1
   have hle:least s.free=k:=PB hlt hk2 (by simpa using hc1)
   have hg:=PC s v (by rw [hle];exact hlt)
   rw [hle] at hg
   rw [aE] at ho1
   refine ⟨a,c,junk,by rw [hle],by rw [hg];exact ho1,rfl,?_⟩
   rw [hg,yN _ _ _ hm,aE]
   show _=[(0,some bp,.cells #[.map (some bm),.slice a (s.free.set k false).length c] 140),(1,some bm,mapObj (s.at_++[(v,(k:Int))])),(2,a.map (·.block),Row 4 (s.free.set k false) junk)]
   rw [aG]
   rfl
 refine bJ 13 [0] ?_
 refine cX [2,1,0] [(1,10)] T.mixed [[0],[1],[2],[3,0],[4],[5],[6],[7],[8,0],[9]] ?_
 refine bV 10 ?_
 refine Wl.mapUpdate 1 T.mp137 rfl rfl rfl rfl ?_
 refine eZ ?_
 refine nE 8 [0] ?_
 refine dY (α:=Bool) 3 [(Bool.false)] rfl T.sl138 T.el4 rfl rfl rfl rfl rfl fun b1=>?_
 refine jS (α:=Bool) 2 T.sl138 T.el4 (fE 3 rfl) fun a1 c1 junk1 ho1=>?_
 refine aL 12 [0,0] ?_
 refine aO (Hm rfl rfl) ?_
 refine aR 4 [] ?_
 refine iR ?_
 refine lY [0,1,2] sN (cK (.inr rfl) rfl (.tmp rfl) (lO 0 _) ?_)
 have hke:k=s.free.length:=sE
 have hle:least s.free=s.free.length:=DI (fun j hj=>hk2 j sE)
 have hg:=TV s v (by rw [hle];omega)
 refine ⟨a1,c1,junk1,?_,by rw [hg];exact ho1,rfl,?_⟩
 · rw [hle,aC]
   show Value.int .i64 (IntKind.i64.wrap (((s.free.length+1:Nat):Int) - 1))=_
   rw [show (((s.free.length+1:Nat):Int) - 1)=s.free.length by omega]
   rw [jK _ sE]
 rw [hg,hle]
 rfl
end Go.Proofs.YtfdcckcadfhpeaaGreatDoor
