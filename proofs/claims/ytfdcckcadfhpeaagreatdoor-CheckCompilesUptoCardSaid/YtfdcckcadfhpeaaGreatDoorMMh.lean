/- uJ of the proof (part 8): what the rows' text needs of the texts that lead to it. -/
import Derived.Test.YtfdcckcadfhpeaaGreatDoorMMg
set_option linter.unusedVariables false
set_option linter.unusedSimpArgs false
set_option linter.unusedSectionVars false
set_option maxHeartbeats 4000000
set_option maxRecDepth 100000
namespace Go.Proofs.YtfdcckcadfhpeaaGreatDoor
open Go Go.Sl
def wO:List I5→List Int→J0 (List Int)
 | [],rs=>some rs
 | i :: l,rs=>(Bb i rs).bind fun x=>wO l (rs.set i.to.toNat x)
theorem OJ (l:List I5) (i:I5) (rs:List Int):wO (l++[i]) rs=(wO l rs).bind fun r=>(Bb i r).map fun x=>r.set i.to.toNat x:=by
 induction l generalizing rs with
 | nil =>
   show (Bb i rs).bind (fun x=>some (rs.set i.to.toNat x))=(Bb i rs).map _;cases Bb i rs <;> rfl
 | cons j l ih =>
   show (Bb j rs).bind (fun x=>wO (l++[i]) (rs.set j.to.toNat x))=((Bb j rs).bind fun x=>wO l (rs.set j.to.toNat x)).bind _;cases Bb j rs with
   | none=>rfl
   | some x=>exact ih _
theorem wS (p:PV) (zs:List Int):∀ k,k≤p.code.length→Zt p zs k=wO (p.code.take k) zs
 | 0,_=>by rw [dP];rfl
 | k+1,hk=>by
   have htk:p.code.take (k+1)=p.code.take k++[p.code[(k:Int).toNat]?.getD default]:=by
    rw [dA,aG,aA sU];rfl
   rw [htk,OJ,←wS p zs k sU];rfl
theorem get_set (r:List Int) (n k:Nat) (x:Int):(r.set n x)[k]?.getD 0=if n=k∧k<r.length then x else r[k]?.getD 0:=by
 rw [cE];by_cases h:n=k
 · subst h;by_cases h2:n<r.length
   · rw [aE rfl,aE h2,aE ⟨rfl,h2⟩];rfl
   rw [aE rfl,aC h2,aC (fun h=>h2 h.2),bV sU]
 rw [aC h,aC (fun h2=>h h2.1)]
def Pa (op c:Int):Int:=if op=5∨op=6 then c else p2 c.toNat
def uZ (op c x:Int):J0 Int:=
 if op=2 then some (-x) else if op=5∨op=7 then some (x*Pa op c) else if op=6∨op=8 then (if x % Pa op c=0 then some (x / Pa op c) else none) else some x
def uR (op c x q:Int):Prop:=if op=2 then q=-x else if op=5∨op=7 then q=x*Pa op c else if op=6∨op=8 then q*Pa op c=x else q=x
theorem pt (c x q:Int):uR 1 c x q↔q=x:=by unfold uR;simp
theorem li (c x q:Int):uR 2 c x q↔q=-x:=by unfold uR;simp
theorem lj (c x q:Int):uR 5 c x q↔q=x*c:=by unfold uR Pa;simp
theorem ie (c x q:Int):uR 6 c x q↔q*c=x:=by unfold uR Pa;simp
theorem uw (c x q:Int):uR 7 c x q↔q=x*p2 c.toNat:=by unfold uR Pa;simp
theorem ux (c x q:Int):uR 8 c x q↔q*p2 c.toNat=x:=by unfold uR Pa;simp
theorem eg {x y q:Int} (hy:y≠0):(if x % y=0 then some (x / y) else none)=some q↔q*y=x:=by
 by_cases h:x % y=0
 · rw [aE h,bU];have e:=Int.ediv_mul_cancel (Int.dvd_of_emod_eq_zero h);constructor
   · rintro rfl;exact e
   intro h2;rw [←h2,Int.mul_ediv_cancel _ hy]
 rw [aC h];constructor
 · intro h2;cases h2
 intro h2;exact absurd (by rw [←h2];exact Int.mul_emod_left q y) h
theorem Sx {op c x q:Int} (h:op=6∨op=8→Pa op c≠0):uZ op c x=some q↔uR op c x q:=by
 unfold uZ uR;by_cases h2:op=2
 · rw [aE h2,aE h2,bU];exact eq_comm
 rw [aC h2,aC h2];by_cases h5:op=5∨op=7
 · rw [aE h5,aE h5,bU];exact eq_comm
 rw [aC h5,aC h5];by_cases h6:op=6∨op=8
 · rw [aE h6,aE h6];exact eg (h h6)
 rw [aC h6,aC h6,bU];exact eq_comm
theorem Ci {op c:Int} (h:tL op c=true):op=6∨op=8→Pa op c≠0:=by
 intro ho;unfold Pa;split
 · rename_i h5;exact yW h h5
 have:=xN c.toNat;omega
theorem Kv {c d:Int} (hc:0≤c) (hd:0≤d):p2 (c+d).toNat=p2 c.toNat*p2 d.toNat:=by
 rw [Int.toNat_add hc hd,Er]
theorem wA {a b c:Int} (hc:c≠0) (h:a*c=b*c):a=b:=oL hc h
theorem YX {f c s d o e:Int} (h:vM f c s d=(o,e,true)) (hc:tL f c=true) (hd:tL s d=true) (x q:Int):(∃ y,uR f c x y∧uR s d y q)↔uR o e x q:=by
 unfold vM at h;by_cases f1:f=1
 · subst f1;rw [aE rfl] at h;cases h;simp only [pt];exact ⟨fun ⟨y,h1,h2⟩=>h1▸h2,fun h2=>⟨x,U,h2⟩⟩
 rw [aC f1] at h;by_cases f2:f=2
 · subst f2;rw [aE rfl] at h;simp only [li];by_cases s1:s=1
   · subst s1;rw [aE rfl] at h;cases h;simp only [pt,li];exact ⟨fun ⟨y,h1,h2⟩=>by rw [h2,h1],fun h2=>⟨_,U,h2⟩⟩
   rw [aC s1] at h;by_cases s2:s=2
   · subst s2;rw [aE rfl] at h;cases h;simp only [pt,li];exact ⟨fun ⟨y,h1,h2⟩=>by omega,fun h2=>⟨_,U,by omega⟩⟩
   rw [aC s2] at h;by_cases s5:s=5∨s=6
   · rw [aE s5] at h;rcases s5 with rfl | rfl
     · cases h;simp only [lj];exact ⟨fun ⟨y,h1,h2⟩=>by rw [h2,h1,hU,jF],fun h2=>⟨_,U,by rw [h2,hU,jF]⟩⟩
     cases h;simp only [ie];exact ⟨fun ⟨y,h1,h2⟩=>by rw [jF,h2,h1,Int.neg_neg],fun h2=>⟨_,U,by rw [←h2,jF,Int.neg_neg]⟩⟩
   rw [aC s5] at h;cases h
 rw [aC f2] at h;by_cases f5:f=5
 · subst f5;rw [aE rfl] at h;have hc0:=yW hc (.inl U);simp only [lj];by_cases s2:s=2
   · subst s2;rw [aE rfl] at h;cases h;simp only [li,lj];exact ⟨fun ⟨y,h1,h2⟩=>by rw [h2,h1,jF],fun h2=>⟨_,U,by rw [h2,jF]⟩⟩
   rw [aC s2] at h;by_cases s5:s=5∧-512≤c*d∧c*d≤512
   · rw [aE s5] at h;obtain ⟨rfl,_⟩:=s5;cases h;simp only [lj];exact ⟨fun ⟨y,h1,h2⟩=>by rw [h2,h1,bT],fun h2=>⟨_,U,by rw [h2,bT]⟩⟩
   rw [aC s5] at h;by_cases s6:s=6∧c.tmod d=0
   · rw [aE s6] at h;obtain ⟨rfl,hm⟩:=s6;have hd0:=yW hd (.inr U);cases h;have hcd:c.tdiv d*d=c:=kC (Int.dvd_of_tmod_eq_zero hm);simp only [lj,ie];constructor
     · rintro ⟨y,h1,h2⟩;refine wA hd0 ?_;rw [h2,h1,bT,hcd]
     intro h2;exact ⟨_,U,by rw [h2,bT,hcd]⟩
   rw [aC s6] at h;by_cases s7:s=6∧d.tmod c=0
   · rw [aE s7] at h;obtain ⟨rfl,hm⟩:=s7;cases h;have hcd:d.tdiv c*c=d:=kC (Int.dvd_of_tmod_eq_zero hm);simp only [ie];constructor
     · rintro ⟨y,h1,h2⟩;refine wA hc0 ?_;rw [bT,hcd,h2,h1]
     intro h2;refine ⟨_,U,?_⟩;rw [←h2,bT,hcd]
   rw [aC s7] at h;cases h
 rw [aC f5] at h;by_cases f6:f=6
 · subst f6;rw [aE rfl] at h;simp only [ie];by_cases s2:s=2
   · subst s2;rw [aE rfl] at h;cases h;simp only [li,ie];exact ⟨fun ⟨y,h1,h2⟩=>by rw [h2,Int.neg_mul_neg,h1],fun h2=>⟨-q,by rw [←h2,jF,hU],by omega⟩⟩
   rw [aC s2] at h;by_cases s6:s=6∧-512≤c*d∧c*d≤512
   · rw [aE s6] at h;obtain ⟨rfl,_⟩:=s6;cases h;simp only [ie];exact ⟨fun ⟨y,h1,h2⟩=>by rw [←h1,←h2,bT,dH d c],fun h2=>⟨q*d,by rw [←h2,bT,dH d c],U⟩⟩
   rw [aC s6] at h;cases h
 rw [aC f6] at h;by_cases f7:f=7
 · subst f7;rw [aE rfl] at h;have hc1:=xT hc (.inl U);simp only [uw];by_cases s7:s=7∧c+d≤64
   · rw [aE s7] at h;obtain ⟨rfl,_⟩:=s7;have hd1:=xT hd (.inl U);cases h;simp only [uw];rw [Kv sU sU];exact ⟨fun ⟨y,h1,h2⟩=>by rw [h2,h1,bT],fun h2=>⟨_,U,by rw [h2,bT]⟩⟩
   rw [aC s7] at h;by_cases s8:s≠8
   · rw [aE s8] at h;cases h
   rw [aC s8] at h;have s8':s=8:=sU;subst s8';have hd1:=xT hd (.inr U);have pc:=xN c.toNat;have pd:=xN d.toNat;simp only [ux];by_cases e1:c=d
   · rw [aE e1] at h;cases h;subst e1;simp only [pt];exact ⟨fun ⟨y,h1,h2⟩=>wA (show p2 c.toNat≠0 by omega) (by rw [h2,h1]),fun h2=>⟨_,U,by rw [h2]⟩⟩
   rw [aC e1] at h;by_cases e2:d<c
   · rw [aE e2] at h;cases h;simp only [uw];have hp:p2 c.toNat=p2 (c - d).toNat*p2 d.toNat:=by
      rw [←Kv sU sU];congr 2;omega
     constructor
     · rintro ⟨y,h1,h2⟩;refine wA (show p2 d.toNat≠0 by omega) ?_;rw [h2,h1,bT,←hp]
     intro h2;exact ⟨_,U,by rw [h2,bT,←hp]⟩
   rw [aC e2] at h;cases h;simp only [ux];have hp:p2 d.toNat=p2 (d - c).toNat*p2 c.toNat:=by
    rw [←Kv sU sU];congr 2;omega
   constructor
   · rintro ⟨y,h1,h2⟩;refine wA (show p2 c.toNat≠0 by omega) ?_;rw [bT,←hp,h2,h1]
   intro h2;exact ⟨_,U,by rw [←h2,bT,←hp]⟩
 rw [aC f7] at h;by_cases f8:f=8
 · subst f8;rw [aE rfl] at h;have hc1:=xT hc (.inr U);by_cases s8:s=8∧c+d≤64
   · rw [aE s8] at h;obtain ⟨rfl,_⟩:=s8;have hd1:=xT hd (.inr U);cases h;simp only [ux];rw [Kv sU sU];exact ⟨fun ⟨y,h1,h2⟩=>by rw [←h1,←h2,bT,dH (p2 d.toNat)],fun h2=>⟨q*p2 d.toNat,by rw [←h2,bT,dH (p2 d.toNat)],U⟩⟩
   rw [aC s8] at h;cases h
 rw [aC f8] at h;cases h
theorem Xn (i:I5) (rs:List Int):Bb (uE i) rs=Bb i rs:=by
 obtain ⟨op,t,a,b,c⟩:=i;unfold uE;simp only;by_cases h3:op=3
 · subst h3;rw [aE rfl];by_cases hab:a=b
   · subst hab;rw [aE rfl];have e2:p2 1=2:=by unfold p2;decide
     simp [Bb,cst,e2];omega
   rw [aC hab]
 rw [aC h3];by_cases h5:op=5∨op=6
 · rw [aE h5];by_cases c1:c=1
   · subst c1;rw [aE rfl];rcases h5 with rfl | rfl <;> simp [Bb,cst]
   rw [aC c1];by_cases c2:c=-1
   · subst c2;rw [aE rfl];rcases h5 with rfl | rfl
     · simp [Bb,cst]
     simp [Bb,cst]
   rw [aC c2];by_cases hp:wH c≠0
   · rw [aE hp];obtain ⟨m,m1,m2,m3,m4⟩:=ef hp;have ht:p2 (wH c).toNat=c:=by rw [m4,aG,m3];rfl
     rcases h5 with rfl | rfl
     · rw [aE rfl];simp [Bb,cst,ht]
     rw [aC (by decide)];simp [Bb,cst,ht]
   rw [aC hp]
 rw [aC h5]
theorem Kw (i:I5):(uE i).to=i.to:=by
 unfold uE
 repeat' split
 all_goals rfl
theorem AD {i:I5} (h:¬(i.op=3∨i.op=4)) (rs:List Int):Bb i rs=uZ i.op i.c (rs[i.a.toNat]?.getD 0):=by
 unfold Bb uZ;have h3:¬i.op=3:=fun e=>h (.inl e);have h4:¬i.op=4:=fun e=>h (.inr e);simp only [h3,h4,eQ];rfl
theorem YY {f c s d:Int} (h:(vM f c s d).2.2=true):¬(f=3∨f=4):=by
 rintro (rfl | rfl) <;> simp [vM] at h
theorem YZ {f c s d:Int} (hs:¬(s=3∨s=4)) (h:(vM f c s d).2.2=true):¬((vM f c s d).1=3∨(vM f c s d).1=4):=by
 unfold vM at h ⊢
 repeat' split
 all_goals first
  | (simp;done)
  | (intro h9;simp at h9;omega)
  | simp_all
theorem TW {a b:I5} {rs:List Int} (hm:(uP a b).2=true) (ha:KQ a) (hb:KQ b) (ht:a.to.toNat<rs.length):wO [uP a b |>.1] rs=wO [a,b] rs:=by
 unfold uP at hm ⊢;by_cases h:b.op=3∨b.op=4∨b.a≠a.to∨b.to≠a.to
 · rw [aE h] at hm;cases hm
 rw [aC h] at hm ⊢;by_cases hk:(vM a.op a.c b.op b.c).2.2=true
 · rw [aE hk];have b34:¬(b.op=3∨b.op=4):=sU;have a34:=YY hk;have o34:=YZ b34 hk;have hba:b.a=a.to:=sU;have hbt:b.to=a.to:=sU;have hok:tL (vM a.op a.c b.op b.c).1 (vM a.op a.c b.op b.c).2.1=true:=(Hc ha hb).resolve_right (by rw [hk];decide);have hsem:=fun x q=>YX (o:=(vM a.op a.c b.op b.c).1) (e:=(vM a.op a.c b.op b.c).2.1) (by rw [←hk]) ha hb x q;generalize (vM a.op a.c b.op b.c).1=o at *;generalize (vM a.op a.c b.op b.c).2.1=e at *;show (Bb (uE ⟨o,b.to,a.a,0,e⟩) rs).bind (fun x=>some (rs.set (uE ⟨o,b.to,a.a,0,e⟩).to.toNat x))=(Bb a rs).bind fun x=>(Bb b (rs.set a.to.toNat x)).bind fun y=>some ((rs.set a.to.toNat x).set b.to.toNat y);rw [Xn,Kw,AD o34,AD a34];simp only [AD b34,hba,hbt];generalize rs[a.a.toNat]?.getD 0=x;have hget:∀ y:Int,(rs.set a.to.toNat y)[a.to.toNat]?.getD 0=y:=fun y=>by rw [get_set,aE ⟨rfl,ht⟩]
   simp only [hget,List.set_set];have key:∀ q,uZ o e x=some q↔∃ y,uZ a.op a.c x=some y∧uZ b.op b.c y=some q:=fun q=>by
    rw [Sx (Ci hok),←hsem x q];constructor
    · rintro ⟨y,k1,k2⟩;exact ⟨y,(Sx (Ci ha)).2 k1,(Sx (Ci hb)).2 k2⟩
    rintro ⟨y,k1,k2⟩;exact ⟨y,(Sx (Ci ha)).1 k1,(Sx (Ci hb)).1 k2⟩
   cases h1:uZ o e x with
   | some q =>
     obtain ⟨y,k1,k2⟩:=(key q).1 h1;rw [k1];simp only [dX,k2]
   | none =>
     cases h2:uZ a.op a.c x with
     | none=>rfl
     | some y =>
       cases h3:uZ b.op b.c y with
       | none=>simp only [dX,h3]
       | some q =>
         have:=(key q).2 ⟨y,h2,h3⟩;rw [h1] at this;cases this
 rw [aC hk] at hm;cases hm
theorem ET:∀ (l:List I5) (rs r:List Int),wO l rs=some r→r.length=rs.length
 | [],rs,r,h=>by cases h;rfl
 | i :: l,rs,r,h=>by
   unfold wO at h;obtain ⟨x,hx,h⟩:=mQ.1 h;rw [ET l _ _ h,aI]
theorem zE (l m:List I5) (rs:List Int):wO (l++m) rs=(wO l rs).bind (wO m):=by
 induction l generalizing rs with
 | nil=>rfl
 | cons i l ih =>
   show (Bb i rs).bind (fun x=>wO (l++m) (rs.set i.to.toNat x))=((Bb i rs).bind fun x=>wO l (rs.set i.to.toNat x)).bind (wO m);cases Bb i rs with
   | none=>rfl
   | some x=>exact ih _
theorem TX {l:List Int} {k:Nat}:l.set k (l[k]?.getD 0)=l:=by
 apply fL;intro j;rw [cE];by_cases h:k=j
 · subst h;rw [aE rfl];by_cases hk:k<l.length
   · rw [aE hk,aA hk];rfl
   rw [aC hk,bV sU]
 rw [aC h]
theorem EU {i:I5} (h:Ie i=true) (rs:List Int):wO [i] rs=some rs:=by
 unfold Ie at h;rw [aO] at h;show (Bb i rs).bind (fun x=>some (rs.set i.to.toNat x))=some rs;have e:Bb i rs=some (rs[i.a.toNat]?.getD 0):=by
  unfold Bb;simp [h.1]
 rw [e,dX,h.2,TX]
def Kx (n:Nat) (i:I5):Prop:=KQ i∧i.to.toNat<n
theorem HY {n:Nat} {i:I5} (h:Kx n i):Kx n (uE i):=⟨Au h.1,by rw [Kw];exact h.2⟩
theorem ZA {a b:I5} (h:(uP a b).2=true):(uP a b).1.to=a.to:=by
 unfold uP at h ⊢;by_cases h1:b.op=3∨b.op=4∨b.a≠a.to∨b.to≠a.to
 · rw [aE h1] at h;cases h
 rw [aC h1] at h ⊢;by_cases hk:(vM a.op a.c b.op b.c).2.2=true
 · rw [aE hk];show (uE _).to=_;rw [Kw];show b.to=a.to;omega
 rw [aC hk] at h;cases h
theorem Xo {n:Nat} {a b:I5} (ha:Kx n a) (hb:Kx n b) (h:(uP a b).2=true):Kx n (uP a b).1:=⟨Ku ha.1 hb.1 h,by rw [ZA h];exact ha.2⟩
theorem EV {n:Nat}:∀ (s:List I5) (b:I5) (rs:List Int),rs.length=n→(∀ i∈s,Kx n i)→Kx n b→wO (yD s b).reverse rs=wO (s.reverse++[b]) rs
 | [],b,rs,hn,hs,hb=>by
   unfold yD;by_cases hi:Ie b=true
   · rw [aE hi];exact (EU hi rs).symm
   · rw [aC hi];rfl
 | a :: s,b,rs,hn,hs,hb=>by
   unfold yD;by_cases hi:Ie b=true
   · rw [aE hi,zE];cases h:wO (a :: s).reverse rs with
     | none=>rfl
     | some r=>exact (EU hi r).symm
   rw [aC hi];by_cases hm:(uP a b).2=true
   · rw [aE hm,EV s _ rs hn (fun i h=>hs i (by simp [h])) (Xo (hs a tW) hb hm),List.reverse_cons,bA,zE,zE];cases h:wO s.reverse rs with
     | none=>rfl
     | some r =>
       rw [dX,dX];exact TW hm (hs a tW).1 hb.1 (by rw [ET _ _ _ h,hn];exact (hs a tW).2)
   rw [aC hm,List.reverse_cons]
theorem OK {n:Nat} (s:List I5) (b:I5) (hs:∀ i∈s,Kx n i) (hb:Kx n b):∀ i∈yD s b,Kx n i:=
 Su (q:=Kx n) (fun a b ha hb h=>Xo ha hb h) s b hs hb
theorem Ky {n:Nat}:∀ (l s:List I5) (rs:List Int),rs.length=n→(∀ i∈l,Kx n i)→(∀ i∈s,Kx n i)→wO (l.foldl (fun s i=>yD s (uE i)) s).reverse rs=wO (s.reverse++l) rs
 | [],s,rs,hn,hl,hs=>by rw [cK];rfl
 | i :: l,s,rs,hn,hl,hs=>by
   have hti:=HY (hl i tW);rw [List.foldl_cons,Ky l _ rs hn (fun j h=>hl j (by simp [h])) (OK s _ hs hti),zE,EV s _ rs hn hs hti,zE,zE];cases h:wO s.reverse rs with
   | none=>rfl
   | some r =>
     rw [dX,dX];show (wO [uE i] r).bind (wO l)=wO (i :: l) r;show ((Bb (uE i) r).bind fun x=>some (r.set (uE i).to.toNat x)).bind (wO l)=(Bb i r).bind fun x=>wO l (r.set i.to.toNat x);rw [Xn,Kw];cases Bb i r <;> rfl
theorem TY {p:PV} {zs:List Int} (hR:sW p=true) (hz:(zs.length:Int)=p.ins):Fg (Av p) zs=Fg p zs:=by
 obtain ⟨f1,f2,f3,f4,f5,f6,f7,f8⟩:=sZ hR;have hl:(wD p zs).length=p.regs.toNat:=by unfold wD;rw [aD,aM];omega
 unfold Fg;rw [wS (Av p) _ _ (aH _),wS p _ _ (aH _),bI,bI];have ht:∀ i∈p.code,Kx p.regs.toNat i:=fun i hi=>by
  have hm:=Gf hR i hi;have:=(tZ hm).2.1;exact ⟨Ch hm,by omega⟩
 have h:=Ky p.code [] (wD p zs) hl ht (fun i h=>by cases h);rw [List.reverse_nil,fJ] at h;show (wO (Sn p.code).reverse (wD p zs)).map (zU p)=_;unfold Sn;rw [h]
theorem uy (G:A2) (a:J0 Addr) (n c:Nat):Does Tryz.prog 200 [.slice a n c] G [] (fun v G' Ho=>∃ b,v=.func (.func 234) #[] #[.pointer (some ⟨b,0,none⟩)]∧Ho=[]∧G' b=some (.cells [.slice a n c].toArray 23)):=by
 refine D0 Tryz.func200 Tryz.ntmps200 fun w=>?_;refine aK 2 [] ?_;refine eG 0 fun b1=>?_;refine aS 5 [] ?_;refine aZ (mO U U) ?_;refine aY 4 [] ?_;refine sT 0 U fun G' hle hb=>?_;refine cG ?_;exact ⟨_,U,U,hb⟩
theorem uz (G:A2) (a:J0 Addr) (c:Nat) (xs:List I5) (b:Nat) (hx:Arr G a xs) (hl:xs.length≤1099511627776) (hb:G b=some (.cells [.slice a xs.length c].toArray 23)) :
 Jr Tryz.prog 234 [.pointer (some ⟨b,0,none⟩)] G kv (Sg xs):=by
 intro ι J inv stop ly i0 hi0 hY;have hcell:G.cell b 0=some (.slice a xs.length c):=EL hb 0 U;refine D0 Tryz.func234 Tryz.ntmps234 fun w=>?_;refine Ph 1000 ?_;refine aK 2 [] ?_;refine aZ (eE T.one23 U sV) ?_;refine bG 6 [] ?_;refine BX (ι:=Int×ι) 1000 (fun (m,s)=>([(3,.int .i64 m),(0,.func (Go.Fn.yield ly) #[] #[]),(1,.pointer (some (Addr.mk b 0 none)))],[])) (fun (m,s)=>J s) (fun (m,s)=>-1≤m∧m<(xs.length:Int)∧inv ((xs.length:Int) - 1 - m).toNat s) (fun (m,s)=>(m+1).toNat) (((xs.length:Int) - 1,i0)) (⟨by omega,by omega,by rw [show ((xs.length:Int) - 1 - ((xs.length:Int) - 1)).toNat=0 by omega];exact hi0⟩) ⟨U,U,U,I3⟩ I3 Al fun ⟨m,s⟩=>fun hk=>?_;obtain ⟨hm1,hm2,hinv⟩:=hk;refine bJ 7 [] ?_;refine cF (fun hc1=>?_) fun hc1=>?_;refine aK 8 [] ?_;refine aZ (eE T.one23 U sV) ?_;refine aB 1 [] ?_;refine gG (α:=Instr) T.sl23 ?_;refine mL T.agg91 ?_;rotate_left;refine bE 4 [] ?_;rotate_left
 · have hbx:(Sg xs)[((xs.length:Int) - 1 - m).toNat]?=some (m,xs[m.toNat]?.getD default):=by
    rw [Nc xs sU];have e1:xs.length - 1 - ((xs.length:Int) - 1 - m).toNat=m.toNat:=sU;rw [e1];have e2:((m.toNat:Nat):Int)=m:=sU;rw [e2]
   refine Lx (A:=[]) 1000 U U U I3 Al U (hY ((xs.length:Int) - 1 - m).toNat _ s hbx hinv) fun vy Gy Hy hly hp=>?_;obtain ⟨rfl,s',rfl,hp⟩:=hp;rcases hp with ⟨rfl,hinv'⟩ | ⟨rfl,hst⟩
   · refine aY 12 [0] ?_;refine MJ ((m - 1,s')) ?_ ?_ ⟨U,U,U,I3⟩ I3 Al
     · refine ⟨by omega,by omega,?_⟩;rw [show ((xs.length:Int) - 1 - (m - 1)).toNat=((xs.length:Int) - 1 - m).toNat+1 by omega];exact hinv'
     show (m - 1+1).toNat<(m+1).toNat;omega
   refine aY 9 [1] ?_;refine pB (k:=1000) (.inr U) U Al ⟨U,s',U,.inr hst⟩
 have hm:m=-1:=sU;subst hm;refine pB (k:=1000) (.inl U) U Al ⟨U,s,U,.inl ?_⟩;rw [Ec];rw [show ((xs.length:Int) - 1 - -1).toNat=xs.length by omega] at hinv;exact hinv
theorem lk (G:A2) (p:PV) (ac ao:J0 Addr) (cc co:Nat) :
 Does Tryz.prog 152 [.agg (J1 p ac cc ao co)] G [] (fun v G' Ho =>
  ∃ b,v=.func (.func 199) #[] #[.pointer (some ⟨b,0,none⟩)]∧Ho=[]∧G' b=some (.cells [.int .i64 p.ins,.int .i64 p.regs,.slice ac p.code.length cc,.slice ao p.outs.length co].toArray 26)):=by
 refine D0 Tryz.func152 Tryz.ntmps152 fun w=>?_;refine aK 2 [] ?_;refine eG 0 fun b1=>?_;refine aS 5 [] ?_;refine aZ (mO U U) ?_;refine aY 4 [] ?_;refine sT 0 U fun G' hle hb=>?_;refine cG ?_;exact ⟨_,U,U,hb⟩
theorem ba (G:A2) (p:PV) (ac ao:J0 Addr) (cc co:Nat) (b:Nat) (hc:Arr G ac p.code) (ho:Arr G ao p.outs) (h1:p.code.length≤1099511627776) (h2:p.outs.length≤1099511627776)
 (hb:G b=some (.cells [.int .i64 p.ins,.int .i64 p.regs,.slice ac p.code.length cc,.slice ao p.outs.length co].toArray 26)) (hR:sW p=true) :
 Jr Tryz.prog 199 [.pointer (some ⟨b,0,none⟩)] G kv (Sg p.code):=by
 intro ι J inv stop ly i0 hi0 hY;have hrow:=KO hb;have hcode:=EL hb 2 U;refine nQ Tryz.func199 U Tryz.ntmps199 U fun w=>?_;refine Ph 1000 ?_;refine aK 2 [] ?_;refine eG 0 fun b1=>?_;refine aS 5 [] ?_;refine aZ (jK T.agg26 U sV U) ?_;refine cZ U (kw _ _ _ _ _ _ sV sV sU sU) ?_;refine aZ (eJ U) ?_;refine bG 2 [] ?_;refine cF (fun hc1=>?_) fun hc1=>?_;refine bE 2 [] ?_;refine nT (.inr U) ?_;rotate_left;refine aK 5 [] ?_;refine aZ (eE T.one23 U sV) ?_;refine cU 1 U (uy _ _ _ _) fun v1 G1 Ho1 hle1 hp=>?_;obtain ⟨bk1,rfl,rfl,hbk1⟩:=hp;replace hc:=hc.up hle1;replace ho:=ho.up hle1;refine bG 3 [] ?_;rotate_left
 · exact absurd hR hc1
 refine pR (ι:=ι) 900 901 (fun s=>[(0,some b1,.cells #[.func (Go.Fn.yield ly) #[] #[]] 272)]++Hp.shift 1000 (J s)) (fun k s=>inv k s) (fun c s=>c=Code.ret∧stop s) (i0) U T.fn234 (fun _=>rfl) U (uz _ ac cc p.code bk1 hc h1 hbk1) (hi0) (Im ⟨U,I3⟩ Al) ⟨U,fun _=>BZ U U⟩ (fun k x s l dd q w0 hx hi=>?_) (fun s dd hi=>?_) fun s dd c hi=>?_
 · refine aK 6 [] ?_;refine aV 902 U T.zero91 fun b2=>?_;refine aY 2 [902] ?_;refine qX 900 U ?_;refine aK 6 [0,902] ?_;refine Lx (A:=[(900,Option.some l,Go.Sl.lrec q Go.LoopState.busy Option.none),(902,Option.some b2,Go.Obj.cells (List.toArray (Go.Sl.A0.enc (Prod.snd x))) 91),(901,Option.some dd,Go.Obj.deferred (Option.some [])),(0,Option.some b1,Go.Obj.cells #[Go.Value.func (Go.Fn.yield ly) #[] #[]] 272)]) 1000 U U U ⟨U,U,U,U,I3⟩ Al U ((hY k x s hx hi).up hle1) fun vy Gy Hy hly hp=>?_;obtain ⟨rfl,s',rfl,hp⟩:=hp;rcases hp with ⟨rfl,hinv'⟩ | ⟨rfl,hst⟩
   · refine aY 6 [0] ?_;refine kF none (.inl ⟨U,U⟩) 900 U ⟨U,(s',none),U,.inl ⟨U,U,?_⟩⟩ (qR U (qR U (Im ⟨U,I3⟩ Al)));exact hinv'
   refine aY 6 [1] ?_;refine kF (some (.ret)) (.inr (.inl ⟨U,U⟩)) 900 U ⟨U,(s',some (.ret)),U,.inr ⟨U,_,U,?_⟩⟩ (qR U (qR U (Im ⟨U,I3⟩ Al)));exact ⟨U,hst⟩
 · refine fI 1 [] ?_;refine nH (.inl U) 901 U ?_;refine nT (.inr U) ?_;refine qE ?_;refine pB (k:=1000) (.inr U) U Al ⟨U,s,U,.inl hi⟩
 obtain ⟨rfl,hst⟩:=hi;refine bE 2 [] ?_;refine nH (.inr U) 901 U ?_;refine nT (.inr U) ?_;refine qE ?_;refine pB (k:=1000) (.inr U) U Al ⟨U,s,U,.inr hst⟩
theorem vc (G:A2) (p:PV) (ac ao:J0 Addr) (cc co:Nat) (hc:Arr G ac p.code) (ho:Arr G ao p.outs) (h1:p.code.length≤1099511627776) (h2:p.outs.length≤1099511627776) (hR:sW p=true) :
 Does Tryz.prog 101 [.agg (J1 p ac cc ao co)] G [] (fun v G' Ho=>∃ b c j,v=.slice b (tC p).length c∧A3 b c (tC p) j∧Ho=[(0,b.map (·.block),Row 4 (tC p) j)]∧G'=G):=by
 obtain ⟨r1,r2,r3,r4,r5,r6,r7,r8⟩:=sZ hR;refine nQ Tryz.func101 U Tryz.ntmps101 U fun w=>?_;refine aK 2 [] ?_;refine eG 0 fun b1=>?_;refine bG 3 [] ?_;refine pH ?_;refine aK 4 [0] ?_;refine gM (α:=Bool) 1 U T.sl138 T.el4 U U sU sU fun b2=>?_;refine aV 2 U T.zero138 fun b3=>?_;refine bG 13 [2,0] ?_;generalize hR0:List.replicate p.regs.toNat (default:Bool)=R0 at *;have hR0l:(R0.length:Int)=p.regs:=by rw [←hR0,aM];omega
 refine gZ (ι:=Nat×List Bool) (fun (k,xs)=>([(17,.int .i64 (k:Int)),(16,.int .i64 (↑p.outs.length:Int)),(15,.slice ao p.outs.length co),(3,.pointer (some (Addr.mk b3 0 none))),(2,.slice none 0 0),(1,.pointer (some ⟨b1,0,none⟩))],[(2,some b3,.cells #[.slice (some ⟨b2,0,none⟩) xs.length R0.length] 138),(1,some b2,Row 4 xs []),(0,some b1,.cells (J1 p ac cc ao co) 26)])) (fun (k,xs)=>k≤p.outs.length∧xs=vL R0 (p.outs.take k)∧A3 (some ⟨b2,0,none⟩) R0.length xs []) (fun (k,xs)=>p.outs.length - k) ((0,R0)) (⟨aP _,U,iJ Qo⟩) fun ⟨k,xs⟩=>fun hk=>?_;obtain ⟨hk1,hxs,hox⟩:=hk;have hxl:(xs.length:Int)=p.regs:=by rw [hxs,xS];exact hR0l
 rcases aN k p.outs.length with hlt | hge
 · have hr:0≤p.outs[(k:Int).toNat]?.getD default∧p.outs[(k:Int).toNat]?.getD default<xs.length:=by
    rw [hxl];refine r7 _ ?_;rw [aG,aA hlt];simp
   refine aK 13 [1] ?_;refine gG (α:=Int) T.sl24 ?_;refine kT 0 T.one3 ?_;refine aS 6 [2] ?_;refine gY (α:=Bool) T.sl138 ?_;refine dJ (z:=_) 1 T.size4 U U U sV sU U fun ho1=>?_;refine aY 7 [] ?_;refine iV 2 (.cells #[.slice (some ⟨b2,0,none⟩) (xs.set (p.outs[(k:Int).toNat]?.getD default).toNat true).length R0.length] 138) U Fc ?_;refine cO ((k+1,_)) ?_ ?_
   · exact ⟨by omega,by rw [Dg _ _ hlt,hxs],ho1⟩
   show p.outs.length - (k+1)<p.outs.length - k;omega
 have hk:k=p.outs.length:=sU;subst hk;rw [bI] at hxs;clear hk1 hge;refine aK 17 [0,0] ?_;refine gM (α:=Bool) 3 U T.sl138 T.el4 U U sU sU fun b4=>?_;refine aV 4 U T.zero138 fun b5=>?_;refine aS 10 [4,0] ?_;refine cU 5 U (lk _ _ _ _ _ _) fun v1 G1 Ho1 hle1 hp=>?_;obtain ⟨bb1,rfl,rfl,hbb1⟩:=hp;replace hc:=hc.up hle1;replace ho:=ho.up hle1;refine bG 3 [] ?_;generalize hS0:List.replicate ((p.code.length:Int)).toNat (default:Bool)=S0 at *;have hS0l:S0.length=p.code.length:=by rw [←hS0,aM];omega
 refine pR (ι:=List Bool×List Bool) 900 901 (fun (A,O)=>[(4,some b5,.cells #[.slice (some ⟨b4,0,none⟩) O.length S0.length] 138),(3,some b4,Row 4 O []),(2,some b3,.cells #[.slice (some ⟨b2,0,none⟩) A.length R0.length] 138),(1,some b2,Row 4 A []),(0,some b1,.cells (J1 p ac cc ao co) 26)]) (fun k (A,O)=>(A,O)=Ae p k∧A3 (some ⟨b2,0,none⟩) R0.length A []∧A3 (some ⟨b4,0,none⟩) S0.length O []) (fun c (A,O)=>False) ((xs,S0)) U T.fn199 (fun _=>rfl) U (ba _ p _ _ _ _ _ hc ho sU sU hbb1 hR) (⟨by rw [hxs,←hR0,←hS0];rfl,hox,iJ Qo⟩) (oM ⟨U,U,U,U,U,I3⟩) ⟨U,fun _=>rfl⟩ (fun k x ⟨A,O⟩ l dd q w0 hx hi=>?_) (fun ⟨A,O⟩ dd hi=>?_) fun ⟨A,O⟩ dd c hi=>?_
 · obtain ⟨hn,hoA,hoO⟩:=hi;have hkl:k<p.code.length:=by have:=(aW.1 hx).1;rw [Ec] at this;exact this
   have hxe:x=(((p.code.length - 1 - k:Nat):Int),p.code[p.code.length - 1 - k]?.getD default):=by rw [Nc _ hkl] at hx;exact (jU hx).symm
   have hx1:x.1=((p.code.length - 1 - k:Nat):Int):=by rw [hxe]
   have hx2:x.2=p.code[p.code.length - 1 - k]?.getD default:=by rw [hxe]
   clear hxe;have hm:tH x.2 p.regs=true:=by
    rw [hx2];refine r8 _ ?_;rw [aA sU,dI];exact bY _
   have hAl:(A.length:Int)=p.regs:=by have:=(wX p k).1;rw [←hn] at this;show (A.length:Int)=_;rw [show A.length=p.regs.toNat from this];omega
   have hOl:O.length=p.code.length:=by have:=(wX p k).2;rw [←hn] at this;exact this
   have hto:0≤x.2.to∧x.2.to<A.length:=by rw [hAl];rw [tS] at hm;exact ⟨hm.1.2.2.1,hm.1.2.2.2.1⟩
   have hx1b:0≤x.1∧x.1<O.length:=by rw [hx1,hOl];omega
   have hask:∀ r∈tM x.2,0≤r∧r<A.length:=by rw [hAl];exact Pv hm
   have hst:Ae p (k+1)=yL (A,O) x.1 x.2:=by rw [hx1,hx2,hn];rfl
   have hasks:(tM x.2).length≤2:=by unfold tM;split <;> (try split) <;> simp
   refine aK 6 [] ?_;refine aV 902 U T.zero91 fun b6=>?_;refine aY 2 [902] ?_;refine qX 900 U ?_;refine aK 7 [2,902] ?_;refine gY (α:=Bool) T.sl138 ?_;refine jS 1 0 T.one4 ?_;refine bG 3 [] ?_;refine mE U (fun hc1=>?_) fun hc1=>?_;refine bE 3 [] ?_;rotate_left;refine aK 6 [4] ?_;refine gY (α:=Bool) T.sl138 ?_;refine dJ (z:=_) 3 T.size4 U U U sV sU U fun ho1=>?_;refine aS 7 [2,902] ?_;refine gY (α:=Bool) T.sl138 ?_;refine dJ (z:=_) 1 T.size4 U U U sV sU U fun ho2=>?_;refine aS 5 [902] ?_;refine cU 903 U (MZ _ _) fun v2 G2 Ho2 hle2 hp=>?_;obtain ⟨ad2,cd2,junk2,rfl,hoa2,rfl,rfl⟩:=hp;refine bG 5 [] ?_;rotate_left
   · refine kF none (.inl ⟨U,U⟩) 900 U ⟨U,((A,O),none),U,.inl ⟨U,U,?_⟩⟩ (oM ⟨U,U,U,U,U,U,U,I3⟩);refine ⟨?_,hoA,hoO⟩;rw [hst];unfold yL;rw [aC (by simpa using hc1)]
   refine rJ 2 (.cells #[.slice (some ⟨b2,0,none⟩) (A.set x.2.to.toNat false).length R0.length] 138) U Fc (rJ 4 (.cells #[.slice (some ⟨b4,0,none⟩) (O.set x.1.toNat true).length S0.length] 138) U Fc ?_);refine gZ (ι:=Nat×List Bool) (fun (m,B)=>([(49,.int .i64 (m:Int)),(48,.int .i64 (↑(List.length (tM (Prod.snd x))):Int)),(47,.slice ad2 (List.length (tM (Prod.snd x))) cd2),(3,.pointer (some (Addr.mk b3 0 none)))],[(2,some b3,.cells #[.slice (some ⟨b2,0,none⟩) B.length R0.length] 138),(1,some b2,Row 4 B []),(4,some b5,.cells #[.slice (some (Addr.mk b4 0 none)) (List.length (List.set O (Int.toNat (Prod.fst x)) Bool.true)) (List.length S0)] 138),(904,Option.map (fun x=>Go.Addr.block x) ad2,Row (α:=Int) 3 (tM (Prod.snd x)) (junk2)),(3,Option.map (fun x=>Go.Addr.block x) (some (Addr.mk b4 0 none)),Row (α:=Bool) 4 (List.set O (Int.toNat (Prod.fst x)) Bool.true) ([])),(900,some l,Go.Sl.lrec q Go.LoopState.busy none),(902,some b6,.cells (List.toArray (A0.enc (Prod.snd x))) 91),(901,some dd,Go.Obj.deferred (some [])),(0,some b1,.cells (J1 p ac cc ao co) 26)])) (fun (m,B)=>m≤(tM x.2).length∧B=vL (A.set x.2.to.toNat false) ((tM x.2).take m)∧A3 (some ⟨b2,0,none⟩) R0.length B []) (fun (m,B)=>(tM x.2).length - m) ((0,A.set x.2.to.toNat false)) (⟨aP _,U,ho2⟩) fun ⟨m,B⟩=>fun hk=>?_;obtain ⟨hm1,hB,hoB⟩:=hk;have hBl:B.length=A.length:=by rw [hB,xS,aI]
   rcases aN m (tM x.2).length with hlt | hge
   · have hr:0≤(tM x.2)[(m:Int).toNat]?.getD default∧(tM x.2)[(m:Int).toNat]?.getD default<B.length:=by
      rw [hBl];refine hask _ ?_;rw [aG,aA hlt];simp
     refine aK 13 [1] ?_;refine gY (α:=Int) T.sl24 ?_;refine jS 904 0 T.one3 ?_;refine aS 6 [2] ?_;refine gY (α:=Bool) T.sl138 ?_;refine dJ (z:=_) 1 T.size4 U U U sV sU U fun ho3=>?_;refine aY 7 [] ?_;refine iV 2 (.cells #[.slice (some ⟨b2,0,none⟩) (B.set ((tM x.2)[(m:Int).toNat]?.getD default).toNat true).length R0.length] 138) U Fc ?_;refine cO ((m+1,_)) ?_ ?_
     · exact ⟨by omega,by rw [Dg _ _ hlt,hB],ho3⟩
     show (tM x.2).length - (m+1)<(tM x.2).length - m;omega
   have hm:m=(tM x.2).length:=sU;subst hm;rw [bI] at hB;refine bE 12 [0] ?_;refine kF none (.inl ⟨U,U⟩) 900 U ⟨U,((B,O.set x.1.toNat true),none),U,.inl ⟨U,U,?_⟩⟩ (oM ⟨U,U,U,U,U,U,U,I3⟩);refine ⟨?_,hoB,ho1⟩;rw [hst];unfold yL;rw [aE (by simpa using hc1),hB]
 · obtain ⟨hn,hoA,hoO⟩:=hi;rw [Ec] at hn;have hO:O=tC p:=congrArg Prod.snd hn;subst hO;refine fI 9 [4] ?_;refine nG ?_;refine nH (.inr U) 901 U ?_;refine nT (.inr U) ?_;refine qE (lW [3] tI (cW (.inr U) U (.tmp U) (lI 0 _) ?_));exact ⟨_,_,_,U,hoO,U,U⟩
 exact hi.elim
theorem vd (G:A2) (i:I5):Does Tryz.prog 102 [.agg (A0.enc i).toArray] G [] (fun v G' Ho=>v=.bool (decide (i.op=1∧i.to=i.a))∧G'=G∧Ho=[]):=by
 refine D0 Tryz.func102 Tryz.ntmps102 fun w=>?_;refine aK 2 [] ?_;refine eG 0 fun b1=>?_;refine aS 9 [0] ?_;apply bS 6 6 12 U;intro hg1;refine aB 11 [0,0] ?_;exact cC 6 0;intro hg1;refine aB 6 [] ?_;exact cC 6 0;refine aY 4 [] ?_;refine cG ?_;exact ⟨U,U,U⟩
theorem ve (G:A2) (p:PV) (ac ao:J0 Addr) (cc co:Nat) (hc:Arr G ac p.code) (ho:Arr G ao p.outs) (h1:p.code.length≤1099511627776) (h2:p.outs.length≤1099511627776) (hR:sW p=true) :
 Does Tryz.prog 49 [.agg (J1 p ac cc ao co)] G [] (fun v G' Ho =>
  ∃ bc bo dc do_ j1 j2,v=.tuple #[.agg #[.int .i64 p.ins,.int .i64 p.regs,.slice bc (Bi p).code.length dc,.slice bo p.outs.length do_],.int .i64 0]∧
   A3 bc dc (Bi p).code j1∧A3 bo do_ p.outs j2∧Ho=[(0,bc.map (·.block),Row 91 (Bi p).code j1),(1,bo.map (·.block),Row 3 p.outs j2)]∧G'=G):=by
 obtain ⟨r1,r2,r3,r4,r5,r6,r7,r8⟩:=sZ hR;have hcheck:(uH p).2=false:=by simpa [sW] using hR
 refine D0 Tryz.func49 Tryz.ntmps49 fun w=>?_;refine dK 0 (Row 91 ([]:List I5) []) ?_;refine aK 2 [] ?_;refine eG 1 fun b1=>?_;refine aV 2 U T.zero26 fun b2=>?_;refine aS 6 [1] ?_;refine cZ U (jm _ _ _ _ _ _ sV sV sU sU) ?_;refine bG 14 [] ?_;refine cF (fun hc1=>?_) fun hc1=>?_;refine aK 2 [] ?_;refine aZ (cQ (cs:=[_,_,_,_]) T.st26 U U U) ?_;refine aY 7 [2] ?_;rotate_left;refine aK 11 [1] ?_;refine cU 3 U (vc _ _ _ _ _ _ sV sV sU sU sV) fun v1 G1 Ho1 hle1 hp=>?_;obtain ⟨nb1,nc1,nj1,rfl,hnb1,rfl,rfl⟩:=hp;refine bG 5 [] ?_;rotate_left
 · rw [hcheck] at hc1;exact absurd U hc1
 have hnl:(tC p).length=p.code.length:=(wX p _).2;refine fY (ι:=Nat×List I5×(J0 Addr×Nat×List Value)) (fun (k,xs,(b,d,j))=>([(21,.int .i64 (k:Int)),(6,.slice b xs.length d),(20,.int .i64 (↑(List.length (tC p)):Int)),(19,.slice nb1 (List.length (tC p)) nc1),(3,.int .i64 0),(2,.pointer (some ⟨b2,0,none⟩)),(1,.pointer (some ⟨b1,0,none⟩))],[(0,b.map (·.block),Row 91 xs j),(3,Option.map (fun x=>Go.Addr.block x) nb1,Row (α:=Bool) 4 (tC p) (nj1)),(2,some b2,.cells #[.int .i64 0,.int .i64 0,.slice none 0 0,.slice none 0 0] 26),(1,some b1,.cells (J1 p ac cc ao co) 26)])) (fun (k,xs,(b,d,j))=>k≤p.code.length∧xs=wE p k∧A3 b d xs j) (fun (k,xs,(b,d,j))=>p.code.length - k) ((0,[],(none,0,[]))) (⟨aP _,U,dN⟩) ⟨U,U,U,U,U,U,U,I3⟩ ⟨U,U,U,U,I3⟩ fun ⟨k,xs,(b,d,j)⟩=>fun hk=>?_;obtain ⟨hk1,hxs,hob⟩:=hk;have hxl:xs.length≤k:=by rw [hxs];exact Iw p k
 rcases aN k p.code.length with hlt | hge
 · have hst:wE p (k+1)=if (tC p)[(k:Int).toNat]?.getD default=true∧¬((p.code[(k:Int).toNat]?.getD default).op=1∧(p.code[(k:Int).toNat]?.getD default).to=(p.code[(k:Int).toNat]?.getD default).a)
    then wE p k++[p.code[((k:Nat):Int).toNat]?.getD default] else wE p k:=rfl
   refine aK 14 [1] ?_;refine gY (α:=Bool) T.sl138 ?_;refine jS 3 0 T.one4 ?_;refine aS 8 [] ?_;refine Vv 27 U (fun hg1=>?_) fun hg1=>?_;refine aB 7 [1] ?_;refine gG (α:=Instr) T.sl23 ?_;refine aB 1 [] ?_;refine mL T.agg91 ?_;refine aB 1 [] ?_;refine cZ U (vd _ _) ?_;refine aB 1 [] ?_;refine aZ (eJ U) ?_;refine bG 3 [] ?_;refine cF (fun hc2=>?_) fun hc2=>?_;refine aK 5 [1] ?_;refine gG (α:=Instr) T.sl23 ?_;refine mL T.agg91 ?_;refine eH (α:=Instr) 4 [(Option.getD p.code[Int.toNat (↑k:Int)]? Inhabited.default)] U T.sl23 T.el91 U U U U U fun b3=>?_;refine iP (α:=Instr) 0 T.sl23 T.el91 (eP 4 U) fun a1 c1 junk1 ho1=>?_;refine aY 8 [] ?_;rotate_left;refine bE 7 [] ?_;rotate_left;refine aY 18 [0] ?_;rotate_left
   · refine cO ((k+1,_,(a1,c1,junk1))) ?_ ?_
     · exact ⟨by omega,by rw [hst,aE ⟨hg1,hc2⟩,hxs],ho1⟩
     show p.code.length - (k+1)<p.code.length - k;omega
   · refine cO ((k+1,xs,(b,d,j))) ?_ ?_
     · exact ⟨by omega,by rw [hst,aC (fun h=>hc2 h.2),hxs],hob⟩
     show p.code.length - (k+1)<p.code.length - k;omega
   refine cO ((k+1,xs,(b,d,j))) ?_ ?_
   · exact ⟨by omega,by rw [hst,aC (fun h=>by rw [hg1] at h;cases h.1),hxs],hob⟩
   show p.code.length - (k+1)<p.code.length - k;omega
 have hk:k=p.code.length:=sU;subst hk;have hxs':xs=(Bi p).code:=hxs;rw [hxs'] at hob ⊢;refine bJ 13 [0] ?_;refine dL [1,2,3,0] [(2,9)] T.mixed [[0],[1,1],[2],[3,1],[4],[5],[6,1]] ?_;refine dB 7 ?_;refine cU 4 U (ee _ _ _ _ sV sU) fun v2 G2 Ho2 hle2 hp=>?_;obtain ⟨lb2,ld2,lj2,rfl,hlb2,rfl,rfl⟩:=hp;refine bW ?_;refine fH 8 [] U (cQ (cs:=[_,_,_,_]) T.st26 U U U) ?_;refine dB 9 ?_;refine aB 1 [2] ?_;refine bW ?_;refine eO [[10]] ?_;refine eU ?_;refine fI 2 [] ?_;refine lW [0,4,2] tI (gD (.inr U) (Ho:=Hp.only _ [0,1]) U (.agg 2 U U T.agg26) (.tmp U) (bH _ _) ?_);exact ⟨_,_,_,_,_,_,U,hob,hlb2,U,U⟩
section
attribute [local irreducible] sY pw vG p2 yJ uC tJ sW
end
theorem vf (G:A2) (p:PV) (ac ao:J0 Addr) (cc co:Nat) (hc:Arr G ac p.code) (ho:Arr G ao p.outs) (h1:p.code.length≤1099511627776) (h2:p.outs.length≤1099511627776) (hR:sW p=true) :
 Does Tryz.prog 141 [.agg (J1 p ac cc ao co)] G [] (fun v G' Ho=>∃ b c j,v=.tuple #[.slice b (tC p).length c,.int .i64 0]∧A3 b c (tC p) j∧Ho=[(0,b.map (·.block),Row 4 (tC p) j)]∧G'=G):=by
 obtain ⟨r1,r2,r3,r4,r5,r6,r7,r8⟩:=sZ hR;refine nQ Tryz.func141 U Tryz.ntmps141 U fun w=>?_;refine aK 2 [] ?_;refine eG 0 fun b1=>?_;refine aS 8 [0] ?_;refine cZ U (kw _ _ _ _ _ _ sV sV sU sU) ?_;refine aZ (eJ U) ?_;refine bG 2 [] ?_;refine cF (fun hc1=>?_) fun hc1=>?_;refine bE 8 [] ?_;refine nT (.inr U) ?_;rotate_left;refine aK 7 [0] ?_;refine gM (α:=Bool) 1 U T.sl138 T.el4 U U sU sU fun b2=>?_;refine aV 2 U T.zero138 fun b3=>?_;refine aS 7 [2,0] ?_;refine gM (α:=Bool) 3 U T.sl138 T.el4 U U sU sU fun b4=>?_;refine aV 4 U T.zero138 fun b5=>?_;refine bG 13 [4,0] ?_;rotate_left
 · exact absurd hR hc1
 generalize hR0:List.replicate p.regs.toNat (default:Bool)=R0 at *;have hR0l:(R0.length:Int)=p.regs:=by rw [←hR0,aM];omega
 generalize hS0:List.replicate ((p.code.length:Int)).toNat (default:Bool)=S0 at *;have hS0l:S0.length=p.code.length:=by rw [←hS0,aM];omega
 refine gZ (ι:=Nat×List Bool) (fun (k,xs)=>([(25,.int .i64 (k:Int)),(24,.int .i64 (↑p.outs.length:Int)),(23,.slice ao p.outs.length co),(5,.pointer (some (Addr.mk b5 0 none))),(4,.pointer (some (Addr.mk b3 0 none))),(3,.int .i64 0),(2,.slice none 0 0),(1,.pointer (some ⟨b1,0,none⟩))],[(4,some b5,.cells #[.slice (some ⟨b4,0,none⟩) xs.length R0.length] 138),(3,some b4,Row 4 xs []),(2,some b3,.cells (List.toArray (List.set [.slice none 0 0] 0 (.slice (some (Addr.mk b2 0 none)) (List.length S0) (List.length S0)))) 138),(1,some b2,Row (α:=Bool) 4 (S0) ([])),(0,some b1,.cells (J1 p ac cc ao co) 26)])) (fun (k,xs)=>k≤p.outs.length∧xs=vL R0 (p.outs.take k)∧A3 (some ⟨b4,0,none⟩) R0.length xs []) (fun (k,xs)=>p.outs.length - k) ((0,R0)) (⟨aP _,U,iJ Qo⟩) fun ⟨k,xs⟩=>fun hk=>?_;obtain ⟨hk1,hxs,hox⟩:=hk;have hxl:(xs.length:Int)=p.regs:=by rw [hxs,xS];exact hR0l
 rcases aN k p.outs.length with hlt | hge
 · have hr:0≤p.outs[(k:Int).toNat]?.getD default∧p.outs[(k:Int).toNat]?.getD default<xs.length:=by
    rw [hxl];refine r7 _ ?_;rw [aG,aA hlt];simp
   refine aK 13 [1] ?_;refine gG (α:=Int) T.sl24 ?_;refine kT 0 T.one3 ?_;refine aS 6 [4] ?_;refine gY (α:=Bool) T.sl138 ?_;refine dJ (z:=_) 3 T.size4 U U U sV sU U fun ho1=>?_;refine aY 7 [] ?_;refine iV 4 (.cells #[.slice (some ⟨b4,0,none⟩) (xs.set (p.outs[(k:Int).toNat]?.getD default).toNat true).length R0.length] 138) U Fc ?_;refine cO ((k+1,_)) ?_ ?_
   · exact ⟨by omega,by rw [Dg _ _ hlt,hxs],ho1⟩
   show p.outs.length - (k+1)<p.outs.length - k;omega
 have hk:k=p.outs.length:=sU;subst hk;rw [bI] at hxs;clear hk1 hge;refine aK 16 [0,0] ?_;refine cU 5 U (lk _ _ _ _ _ _) fun v1 G1 Ho1 hle1 hp=>?_;obtain ⟨bb1,rfl,rfl,hbb1⟩:=hp;replace hc:=hc.up hle1;replace ho:=ho.up hle1;refine bG 3 [] ?_;refine pR (ι:=List Bool×List Bool) 900 901 (fun (A,O)=>[(2,some b3,.cells #[.slice (some ⟨b2,0,none⟩) O.length S0.length] 138),(1,some b2,Row 4 O []),(4,some b5,.cells #[.slice (some ⟨b4,0,none⟩) A.length R0.length] 138),(3,some b4,Row 4 A []),(0,some b1,.cells (J1 p ac cc ao co) 26)]) (fun k (A,O)=>(A,O)=Ae p k∧A3 (some ⟨b4,0,none⟩) R0.length A []∧A3 (some ⟨b2,0,none⟩) S0.length O []) (fun c (A,O)=>False) ((xs,S0)) U T.fn199 (fun _=>rfl) U (ba _ p _ _ _ _ _ hc ho sU sU hbb1 hR) (⟨by rw [hxs,←hR0,←hS0];rfl,hox,iJ Qo⟩) (oM ⟨U,U,U,U,U,I3⟩) ⟨U,fun _=>rfl⟩ (fun k x ⟨A,O⟩ l dd q w0 hx hi=>?_) (fun ⟨A,O⟩ dd hi=>?_) fun ⟨A,O⟩ dd c hi=>?_
 · obtain ⟨hn,hoA,hoO⟩:=hi;have hkl:k<p.code.length:=by have:=(aW.1 hx).1;rw [Ec] at this;exact this
   have hxe:x=(((p.code.length - 1 - k:Nat):Int),p.code[p.code.length - 1 - k]?.getD default):=by rw [Nc _ hkl] at hx;exact (jU hx).symm
   have hx1:x.1=((p.code.length - 1 - k:Nat):Int):=by rw [hxe]
   have hx2:x.2=p.code[p.code.length - 1 - k]?.getD default:=by rw [hxe]
   clear hxe;have hm:tH x.2 p.regs=true:=by
    rw [hx2];refine r8 _ ?_;rw [aA sU,dI];exact bY _
   have hAl:(A.length:Int)=p.regs:=by have:=(wX p k).1;rw [←hn] at this;show (A.length:Int)=_;rw [show A.length=p.regs.toNat from this];omega
   have hOl:O.length=p.code.length:=by have:=(wX p k).2;rw [←hn] at this;exact this
   have hto:0≤x.2.to∧x.2.to<A.length:=by rw [hAl];rw [tS] at hm;exact ⟨hm.1.2.2.1,hm.1.2.2.2.1⟩
   have hx1b:0≤x.1∧x.1<O.length:=by rw [hx1,hOl];omega
   have hask:∀ r∈tM x.2,0≤r∧r<A.length:=by rw [hAl];exact Pv hm
   have hst:Ae p (k+1)=yL (A,O) x.1 x.2:=by rw [hx1,hx2,hn];rfl
   have hasks:(tM x.2).length≤2:=by unfold tM;split <;> (try split) <;> simp
   refine aK 6 [] ?_;refine aV 902 U T.zero91 fun b6=>?_;refine aY 2 [902] ?_;refine qX 900 U ?_;refine aK 7 [4,902] ?_;refine gY (α:=Bool) T.sl138 ?_;refine jS 3 0 T.one4 ?_;refine bG 3 [] ?_;refine mE U (fun hc2=>?_) fun hc2=>?_;refine bE 3 [] ?_;rotate_left;refine bJ 3 [] ?_;refine dL [0,3,4,1,2,901,902,900] [(900,8),(902,8),(901,8),(2,8),(1,8),(4,8),(3,8),(0,8),(900,6),(902,6),(901,6),(2,6),(1,6),(4,6),(3,6),(0,6)] T.mixed [[0,2],[1],[3]] ?_;refine iA (α:=Bool) 5 T.sl138 ?_;refine Gm.o3 2 4 6 ?_ ?_ ?_;refine aB 1 [4] ?_;refine bW ?_;refine oO 4 6 ?_ ?_;refine aB 1 [902] ?_;refine cY 6 ?_;refine dJ (z:=_) 1 T.size4 U U U sV sU U fun ho1=>?_;refine bW ?_;refine iA (α:=Bool) 7 T.sl138 ?_;refine dB 8 ?_;refine dJ (z:=_) 3 T.size4 U U U sV sU U fun ho2=>?_;refine fB ?_;refine oR 4 [902] ?_;refine cU 903 U (MZ _ _) fun v2 G2 Ho2 hle2 hp=>?_;obtain ⟨ad2,cd2,junk2,rfl,hoa2,rfl,rfl⟩:=hp;refine bG 5 [] ?_;rotate_left;refine dJ (z:=_) 1 T.size4 U U U sV sU U fun ho1=>?_;refine cY 4 ?_;refine aB 1 [902] ?_;refine bW ?_;refine iA (α:=Bool) 7 T.sl138 ?_;refine dB 8 ?_;refine dJ (z:=_) 3 T.size4 U U U sV sU U fun ho2=>?_;refine fB ?_;refine oR 4 [902] ?_;refine cU 903 U (MZ _ _) fun v2 G2 Ho2 hle2 hp=>?_;obtain ⟨ad2,cd2,junk2,rfl,hoa2,rfl,rfl⟩:=hp;refine bG 5 [] ?_;rotate_left;refine aB 1 [902] ?_;refine bW ?_;refine oO 2 6 ?_ ?_;refine aB 1 [4] ?_;refine cY 6 ?_;refine dJ (z:=_) 1 T.size4 U U U sV sU U fun ho1=>?_;refine bW ?_;refine iA (α:=Bool) 7 T.sl138 ?_;refine dB 8 ?_;refine dJ (z:=_) 3 T.size4 U U U sV sU U fun ho2=>?_;refine fB ?_;refine oR 4 [902] ?_;refine cU 903 U (MZ _ _) fun v2 G2 Ho2 hle2 hp=>?_;obtain ⟨ad2,cd2,junk2,rfl,hoa2,rfl,rfl⟩:=hp;refine bG 5 [] ?_;rotate_left;refine dJ (z:=_) 1 T.size4 U U U sV sU U fun ho1=>?_;refine cY 2 ?_;refine aB 1 [4] ?_;refine bW ?_;refine iA (α:=Bool) 7 T.sl138 ?_;refine dB 8 ?_;refine dJ (z:=_) 3 T.size4 U U U sV sU U fun ho2=>?_;refine fB ?_;refine oR 4 [902] ?_;refine cU 903 U (MZ _ _) fun v2 G2 Ho2 hle2 hp=>?_;obtain ⟨ad2,cd2,junk2,rfl,hoa2,rfl,rfl⟩:=hp;refine bG 5 [] ?_;rotate_left;refine dJ (z:=_) 1 T.size4 U U U sV sU U fun ho1=>?_;refine bW ?_;refine oO 2 4 ?_ ?_;refine aB 1 [4] ?_;refine cY 4 ?_;refine aB 1 [902] ?_;refine bW ?_;refine iA (α:=Bool) 7 T.sl138 ?_;refine dB 8 ?_;refine dJ (z:=_) 3 T.size4 U U U sV sU U fun ho2=>?_;refine fB ?_;refine oR 4 [902] ?_;refine cU 903 U (MZ _ _) fun v2 G2 Ho2 hle2 hp=>?_;obtain ⟨ad2,cd2,junk2,rfl,hoa2,rfl,rfl⟩:=hp;refine bG 5 [] ?_;rotate_left;refine aB 1 [902] ?_;refine cY 2 ?_;refine aB 1 [4] ?_;refine bW ?_;refine iA (α:=Bool) 7 T.sl138 ?_;refine dB 8 ?_;refine dJ (z:=_) 3 T.size4 U U U sV sU U fun ho2=>?_;refine fB ?_;refine oR 4 [902] ?_;refine cU 903 U (MZ _ _) fun v2 G2 Ho2 hle2 hp=>?_;obtain ⟨ad2,cd2,junk2,rfl,hoa2,rfl,rfl⟩:=hp;refine bG 5 [] ?_;rotate_left
   · refine kF none (.inl ⟨U,U⟩) 900 U ⟨U,((A,O),none),U,.inl ⟨U,U,?_⟩⟩ (oM ⟨U,U,U,U,U,U,U,I3⟩);refine ⟨?_,hoA,hoO⟩;rw [hst];unfold yL;rw [aC (by simpa using hc2)]
   all_goals
    have hoO':A3 (some ⟨b2,0,none⟩) S0.length (O.set x.1.toNat true) []:=by assumption
    have hoA':A3 (some ⟨b4,0,none⟩) R0.length (A.set x.2.to.toNat false) []:=by assumption
    refine rJ 4 (.cells #[.slice (some ⟨b4,0,none⟩) (A.set x.2.to.toNat false).length R0.length] 138) U Fc (rJ 2 (.cells #[.slice (some ⟨b2,0,none⟩) (O.set x.1.toNat true).length S0.length] 138) U Fc ?_);refine gZ (ι:=Nat×List Bool) (fun (m,B)=>([(53,.int .i64 (m:Int)),(52,.int .i64 (↑(List.length (tM (Prod.snd x))):Int)),(51,.slice ad2 (List.length (tM (Prod.snd x))) cd2),(5,.pointer (some (Addr.mk b5 0 none)))],[(4,some b5,.cells #[.slice (some ⟨b4,0,none⟩) B.length R0.length] 138),(3,some b4,Row 4 B []),(2,some b3,.cells #[.slice (some (Addr.mk b2 0 none)) (List.length (List.set O (Int.toNat (Prod.fst x)) Bool.true)) (List.length S0)] 138),(904,Option.map (fun x=>Go.Addr.block x) ad2,Row (α:=Int) 3 (tM (Prod.snd x)) (junk2)),(1,Option.map (fun x=>Go.Addr.block x) (some (Addr.mk b2 0 none)),Row (α:=Bool) 4 (List.set O (Int.toNat (Prod.fst x)) Bool.true) ([])),(900,some l,Go.Sl.lrec q Go.LoopState.busy none),(902,some b6,.cells (List.toArray (A0.enc (Prod.snd x))) 91),(901,some dd,Go.Obj.deferred (some [])),(0,some b1,.cells (J1 p ac cc ao co) 26)])) (fun (m,B)=>m≤(tM x.2).length∧B=vL (A.set x.2.to.toNat false) ((tM x.2).take m)∧A3 (some ⟨b4,0,none⟩) R0.length B []) (fun (m,B)=>(tM x.2).length - m) ((0,A.set x.2.to.toNat false)) (⟨aP _,U,hoA'⟩) fun ⟨m,B⟩=>fun hk=>?_;obtain ⟨hm1,hB,hoB⟩:=hk;have hBl:B.length=A.length:=by rw [hB,xS,aI]
    rcases aN m (tM x.2).length with hlt | hge
    · have hr:0≤(tM x.2)[(m:Int).toNat]?.getD default∧(tM x.2)[(m:Int).toNat]?.getD default<B.length:=by
       rw [hBl];refine hask _ ?_;rw [aG,aA hlt];simp
      refine aK 13 [1] ?_;refine gY (α:=Int) T.sl24 ?_;refine jS 904 0 T.one3 ?_;refine aS 6 [4] ?_;refine gY (α:=Bool) T.sl138 ?_;refine dJ (z:=_) 3 T.size4 U U U sV sU U fun ho3=>?_;refine aY 7 [] ?_;refine iV 4 (.cells #[.slice (some ⟨b4,0,none⟩) (B.set ((tM x.2)[(m:Int).toNat]?.getD default).toNat true).length R0.length] 138) U Fc ?_;refine cO ((m+1,_)) ?_ ?_
      · exact ⟨by omega,by rw [Dg _ _ hlt,hB],by assumption⟩
      show (tM x.2).length - (m+1)<(tM x.2).length - m;omega
    have hm:m=(tM x.2).length:=sU;subst hm;rw [bI] at hB;refine bE 12 [0] ?_;refine kF none (.inl ⟨U,U⟩) 900 U ⟨U,((B,O.set x.1.toNat true),none),U,.inl ⟨U,U,?_⟩⟩ (oM ⟨U,U,U,U,U,U,U,I3⟩);refine ⟨?_,hoB,hoO'⟩;rw [hst];unfold yL;rw [aE (by simpa using hc2),hB]
 · obtain ⟨hn,hoA,hoO⟩:=hi;rw [Ec] at hn;have hO:O=tC p:=congrArg Prod.snd hn;subst hO;refine fI 10 [2] ?_;refine nH (.inr U) 901 U ?_;refine nT (.inr U) ?_;refine qE (lW [1] tI (gD (.inr U) U (.tmp U) (.tmp U) (lI 0 _) ?_));exact ⟨_,_,_,U,hoO,U,U⟩
 exact hi.elim
structure Life where
 a:List Int
 b:List Int
 sets:List Int
 outs:List Int
 till:List Int
 held:List Int
def yX (p:PV) (k:Nat):Sl.Instr:=p.code[((k:Nat):Int).toNat]?.getD default
def Ct (p:PV) (k:Nat):Bool:=(tC p)[((k:Nat):Int).toNat]?.getD default
def vA (l:Life) (i:I5):Int:=l.held[i.a.toNat]?.getD default
def vB (l:Life) (i:I5):Int:=if 1<(tM i).length then l.held[i.b.toNat]?.getD default else vA l i
def uY (l:Life) (k:Nat) (i:I5):Life:=
 ⟨l.a.set k (vA l i),l.b.set k (vB l i),l.sets.set k l.till.length,l.outs,((l.till.set (vA l i).toNat k).set (vB l i).toNat k)++[-1],l.held.set i.to.toNat l.till.length⟩
def wM (p:PV):Life:=
 ⟨List.replicate p.code.length 0,List.replicate p.code.length 0,List.replicate p.code.length 0,[],List.replicate (p.ins.toNat+1) (-1),(List.range p.regs.toNat).map fun (r:Nat)=>min (r:Int) p.ins⟩
def tF (p:PV):Nat→Life
 | 0=>wM p
 | k+1=>if Ct p k=true then uY (tF p k) k (yX p k) else tF p k
def Fa (p:PV) (l:Life) (r:Int):Life:=
 { l with outs:=l.outs++[l.held[r.toNat]?.getD default],till:=l.till.set (l.held[r.toNat]?.getD default).toNat p.code.length }
def wN (p:PV):Nat→Life
 | 0=>tF p p.code.length
 | j+1=>Fa p (wN p j) (p.outs[((j:Nat):Int).toNat]?.getD default)
def lifeP (p:PV):Life:=wN p p.outs.length
structure C9 (p:PV) (k:Nat) (l:Life):Prop where
 al:l.a.length=p.code.length
 bl:l.b.length=p.code.length
 sl:l.sets.length=p.code.length
 hl:(l.held.length:Int)=p.regs
 t0:p.ins+1≤l.till.length
 t1:(l.till.length:Int)≤p.ins+1+k
 hb:∀ v∈l.held,0≤v∧v<l.till.length
 ab:∀ v∈l.a,0≤v∧v<l.till.length
 bb:∀ v∈l.b,0≤v∧v<l.till.length
 sb:∀ v∈l.sets,0≤v∧v<l.till.length
 ob:∀ v∈l.outs,0≤v∧v<l.till.length
theorem TZ {p:PV} {k:Nat} {l:Life} {i:I5} (h:C9 p k l) (hm:tH i p.regs=true):0≤vA l i∧vA l i<l.till.length:=by
 have h1:=(tZ hm).2.2.1;exact h.hb _ (get_mem (by rw [h.hl];exact h1))
theorem Nd {i:I5} (h:1<(tM i).length):i.op=3∨i.op=4:=by
 unfold tM at h;split at h
 · assumption
 split at h <;> simp at h
theorem Pw (i:I5):1<(tM i).length↔i.op=3∨i.op=4:=⟨Nd,fun h=>by unfold tM;rw [aE h];simp⟩
theorem UA {p:PV} {k:Nat} {l:Life} {i:I5} (h:C9 p k l) (hm:tH i p.regs=true):0≤vB l i∧vB l i<l.till.length:=by
 unfold vB;split
 · rename_i h2;have h1:=(tZ hm).2.2.2.1 (Nd h2);exact h.hb _ (get_mem (by rw [h.hl];exact h1))
 exact TZ h hm
theorem UB {p:PV} (h:1≤p.ins∧p.ins≤p.regs):C9 p 0 (wM p):=by
 have ht:(wM p).till.length=p.ins.toNat+1:=aM;refine ⟨aM,aM,aM,?_,by rw [ht];omega,by rw [ht];omega,?_,?_,?_,?_,?_⟩
 · show (((List.range p.regs.toNat).map _).length:Int)=p.regs;rw [aT,cM];omega
 · intro v hv;obtain ⟨r,hr,rfl⟩:=cT.1 (show v∈(List.range p.regs.toNat).map _ from hv);rw [ht];omega
 all_goals intro v hv
 · rw [iZ (show v∈List.replicate _ _ from hv),ht];omega
 · rw [iZ (show v∈List.replicate _ _ from hv),ht];omega
 · rw [iZ (show v∈List.replicate _ _ from hv),ht];omega
 cases hv
theorem Dm (l:Life) (k:Nat) (i:I5):(uY l k i).till.length=l.till.length+1:=by
 show (((l.till.set _ _).set _ _)++[-1]).length=_;rw [aD,aI,aI];rfl
theorem EW {p:PV} {k:Nat} {l:Life} {i:I5} (h:C9 p k l) (hm:tH i p.regs=true):C9 p (k+1) (uY l k i):=by
 have ha:=TZ h hm;have hb:=UA h hm;have ht:=Dm l k i;have h0:=h.t0;have h1:=h.t1;refine ⟨by show (l.a.set _ _).length=_;rw [aI];exact h.al,by show (l.b.set _ _).length=_;rw [aI];exact h.bl,by show (l.sets.set _ _).length=_;rw [aI];exact h.sl,by show ((l.held.set _ _).length:Int)=_;rw [aI];exact h.hl,by rw [ht];omega,by rw [ht];omega,?_,?_,?_,?_,?_⟩;all_goals intro v hv;rw [ht]
 · rcases eM (show v∈l.held.set _ _ from hv) with h2 | h2
   · have:=h.hb v h2;omega
   omega
 · rcases eM (show v∈l.a.set _ _ from hv) with h2 | h2
   · have:=h.ab v h2;omega
   omega
 · rcases eM (show v∈l.b.set _ _ from hv) with h2 | h2
   · have:=h.bb v h2;omega
   omega
 · rcases eM (show v∈l.sets.set _ _ from hv) with h2 | h2
   · have:=h.sb v h2;omega
   omega
 have:=h.ob v hv;omega
theorem C9.next {p:PV} {k:Nat} {l:Life} (h:C9 p k l):C9 p (k+1) l:=⟨h.al,h.bl,h.sl,h.hl,h.t0,by have:=h.t1;omega,h.hb,h.ab,h.bb,h.sb,h.ob⟩
theorem xU {p:PV} (hR:sW p=true) {k:Nat} (hk:k<p.code.length):tH (yX p k) p.regs=true:=by
 refine (sZ hR).2.2.2.2.2.2.2 _ ?_;unfold yX;rw [aG,aA hk];exact bY hk
theorem xX {p:PV} (hR:sW p=true):∀ k,k≤p.code.length→C9 p k (tF p k)
 | 0,_=>UB ⟨(sZ hR).1,(sZ hR).2.1⟩
 | k+1,hk=>by
   have ih:=xX hR k sU;unfold tF;split
   · exact EW ih (xU hR sU)
   exact ih.next
theorem HZ {p:PV} {k:Nat} {l:Life} {r:Int} (h:C9 p k l) (hr:0≤r∧r<p.regs):C9 p k (Fa p l r):=by
 have ht:(Fa p l r).till.length=l.till.length:=aI;have hv:=h.hb _ (get_mem (r:=r) (by rw [h.hl];exact hr));refine ⟨h.al,h.bl,h.sl,h.hl,by rw [ht];exact h.t0,by rw [ht];exact h.t1,?_,?_,?_,?_,?_⟩;all_goals intro v hv2;rw [ht]
 · exact h.hb v hv2
 · exact h.ab v hv2
 · exact h.bb v hv2
 · exact h.sb v hv2
 rcases dR.1 (show v∈l.outs++[_] from hv2) with h2 | h2
 · exact h.ob v h2
 rw [eD.1 h2];exact hv
theorem Px {p:PV} (hR:sW p=true) {j:Nat} (hj:j<p.outs.length):0≤p.outs[((j:Nat):Int).toNat]?.getD default∧p.outs[((j:Nat):Int).toNat]?.getD default<p.regs:=by
 refine (sZ hR).2.2.2.2.2.2.1 _ ?_;rw [aG,aA hj];exact bY hj
theorem Sy {p:PV} (hR:sW p=true):∀ j,j≤p.outs.length→C9 p p.code.length (wN p j)
 | 0,_=>xX hR _ (aH _)
 | j+1,hj=>HZ (Sy hR j sU) (Px hR sU)
theorem UC {p:PV} (hR:sW p=true):C9 p p.code.length (lifeP p):=Sy hR _ (aH _)
theorem Nf (p:PV):∀ j,(wN p j).outs.length=(tF p p.code.length).outs.length+j
 | 0=>rfl
 | j+1=>by show (_++[_]).length=_;rw [aD,Nf p j];rfl
theorem Aw (p:PV):∀ k,(tF p k).outs=[]
 | 0=>rfl
 | k+1=>by
   unfold tF;split
   · exact Aw p k
   exact Aw p k
theorem Sz (p:PV):(lifeP p).outs.length=p.outs.length:=by unfold lifeP;rw [Nf,Aw];exact cP _
structure Pl where
 at_:List (Int×Int)
 free:List Bool
def stand (s:Pl) (v:Int):Int:=(A9 s.at_ v).getD 0
def Ng (s:Pl) (v u:Int):Pl:=⟨Bk s.at_ v s.free.length,s.free++[decide (u<0)]⟩
def least (l:List Bool):Nat:=l.findIdx (fun b=>b)
def xA (s:Pl) (v:Int):Pl:=⟨Bk s.at_ v (least s.free),if least s.free<s.free.length then s.free.set (least s.free) false else s.free++[false]⟩
def vU (l:Life) (k:Nat) (s:Pl) (v:Int):Pl:=if l.till[v.toNat]?.getD default=k then ⟨s.at_,s.free.set (stand s v).toNat true⟩ else s
def Ax (l:Life):Nat→Pl
 | 0=>⟨[],[]⟩
 | v+1=>Ng (Ax l v) v (l.till[((v:Nat):Int).toNat]?.getD default)
def Be (p:PV) (l:Life):Pl:=if 0≤l.till[p.ins.toNat]?.getD default then Ng (Ax l p.ins.toNat) p.ins (l.till[p.ins.toNat]?.getD default) else Ax l p.ins.toNat
structure PkS where
 s:Pl
 regs:Int
 code:List I5
def Ja (l:Life) (x:PkS) (k:Nat) (i:I5):PkS:=
 let va:=l.a[((k:Nat):Int).toNat]?.getD default
 let vb:=l.b[((k:Nat):Int).toNat]?.getD default
 let s2:=vU l k (vU l k x.s va) vb
 ⟨xA s2 (l.sets[((k:Nat):Int).toNat]?.getD default),max x.regs ((least s2.free:Int)+1),x.code++[⟨i.op,least s2.free,stand x.s va,if 1<(tM i).length then stand x.s vb else i.b,i.c⟩]⟩
def tY (p:PV):Nat→PkS
 | 0=>⟨Be p (lifeP p),max p.ins (Be p (lifeP p)).free.length,[]⟩
 | k+1=>if Ct p k=true then Ja (lifeP p) (tY p k) k (yX p k) else tY p k
def tV (p:PV):PV:=⟨p.ins,(tY p p.code.length).regs,(tY p p.code.length).code,(lifeP p).outs.map (stand (tY p p.code.length).s)⟩
structure F3 (s:Pl):Prop where
 f0:0<s.free.length
 ab:∀ v,0≤stand s v∧stand s v<s.free.length
theorem Nh (s:Pl) (v w r:Int) (f:List Bool):stand ⟨Bk s.at_ v r,f⟩ w=if w=v then r else stand s w:=by
 unfold stand;rw [xW];split <;> rfl
theorem Ay (l:List Bool):least l≤l.length:=List.findIdx_le_length
theorem AE {s:Pl} (h:∀ v,0≤stand s v∧stand s v≤s.free.length) (v u:Int):F3 (Ng s v u):=by
 have hl:(Ng s v u).free.length=s.free.length+1:=by show (s.free++[_]).length=_;rw [aD];rfl
 refine ⟨by omega,fun w=>?_⟩;have h1:stand (Ng s v u) w=if w=v then (s.free.length:Int) else stand s w:=Nh s v w _ _;have h2:=h w;rw [h1,hl];split <;> omega
theorem F3.le {s:Pl} (h:F3 s) (v:Int):0≤stand s v∧stand s v≤s.free.length:=by have:=h.ab v;omega
theorem Ta (l:Life):∀ n,F3 (Ax l (n+1))∧(Ax l (n+1)).free.length=n+1
 | 0=>⟨AE (s:=⟨[],[]⟩) (fun v=>⟨lH _,lH _⟩) _ _,U⟩
 | n+1=>by
   obtain ⟨h1,h2⟩:=Ta l n;exact ⟨AE h1.le _ _,by show ((Ax l (n+1)).free++[_]).length=_;rw [aD,h2];rfl⟩
theorem Bt (l:Life):∀ n,(Ax l n).free.length=n
 | 0=>rfl
 | n+1=>(Ta l n).2
theorem Hd {p:PV} (h:1≤p.ins) (l:Life):F3 (Be p l)∧p.ins≤(Be p l).free.length∧((Be p l).free.length:Int)≤p.ins+1:=by
 obtain ⟨n,hn⟩:∃ n,p.ins.toNat=n+1:=⟨p.ins.toNat - 1,by omega⟩
 have h1:=(Ta l n).1;have h2:=Bt l p.ins.toNat;unfold Be;split
 · refine ⟨AE (by rw [hn];exact h1.le) _ _,?_⟩;show p.ins≤(((Ax l p.ins.toNat).free++[_]).length:Int)∧(((Ax l p.ins.toNat).free++[_]).length:Int)≤_;rw [aD,h2];constructor
   · show p.ins≤((p.ins.toNat+1:Nat):Int);omega
   show ((p.ins.toNat+1:Nat):Int)≤_;omega
 rw [hn];exact ⟨h1,by rw [Bt];omega,by rw [Bt];omega⟩
theorem wY (l:Life) (k:Nat) (s:Pl) (v:Int):(vU l k s v).free.length=s.free.length:=by
 unfold vU;split
 · exact aI
 rfl
theorem Ed (l:Life) (k:Nat) (s:Pl) (v:Int):(vU l k s v).at_=s.at_:=by
 unfold vU;split <;> rfl
theorem Bo (l:Life) (k:Nat) (s:Pl) (v w:Int):stand (vU l k s v) w=stand s w:=by
 unfold stand;rw [Ed]
theorem Bu {l:Life} {k:Nat} {s:Pl} {v:Int} (h:F3 s):F3 (vU l k s v):=⟨by rw [wY];exact h.f0,fun w=>by rw [Bo,wY];exact h.ab w⟩
theorem Az (s:Pl) (v:Int):(xA s v).free.length=if least s.free<s.free.length then s.free.length else s.free.length+1:=by
 unfold xA;simp only;split
 · exact aI
 rw [aD];rfl
theorem Jb (s:Pl) (v w:Int):stand (xA s v) w=if w=v then (least s.free:Int) else stand s w:=Nh s v w _ _
theorem KS {s:Pl} (h:F3 s) (v:Int):F3 (xA s v):=by
 have h1:=Ay s.free;have h0:=h.f0;refine ⟨by rw [Az];split <;> omega,fun w=>?_⟩;have h2:=h.ab w;rw [Jb,Az];split <;> split <;> omega
theorem KT {p:PV} (h:1≤p.ins):∀ k,F3 (tY p k).s
 | 0=>(Hd h _).1
 | k+1=>by
   have ih:=KT h k;unfold tY;split
   · exact KS (Bu (Bu ih)) _
   exact ih
theorem EX {p:PV} (h:1≤p.ins):∀ k,((tY p k).s.free.length:Int)≤p.ins+1+k∧(tY p k).code.length≤k
 | 0=>⟨by show ((Be p (lifeP p)).free.length:Int)≤_;have:=(Hd h (lifeP p)).2.2;omega,aH _⟩
 | k+1=>by
   obtain ⟨h1,h2⟩:=EX h k;unfold tY;split
   · refine ⟨?_,by show ((tY p k).code++[_]).length≤_;rw [aD];show _+1≤_;omega⟩;show ((xA _ _).free.length:Int)≤_;rw [Az,wY,wY];split <;> omega
   omega
def uI (p:PV) (k:Nat) (r:Int):Int:=(tF p k).held[r.toNat]?.getD default
def uT (p:PV) (k:Nat):Nat:=(tF p k).till.length
def tl (l:Life) (v:Int):Int:=l.till[v.toNat]?.getD default
def Cu (p:PV) (k:Nat):Int:=vA (tF p k) (yX p k)
def Cv (p:PV) (k:Nat):Int:=vB (tF p k) (yX p k)
theorem Ee {p:PV} {k:Nat} (h:Ct p k=true):tF p (k+1)=uY (tF p k) k (yX p k):=aE h
theorem Kz {p:PV} {k:Nat} (h:¬Ct p k=true):tF p (k+1)=tF p k:=aC h
theorem La {p:PV} {k:Nat} (h:Ct p k=true):uT p (k+1)=uT p k+1:=by unfold uT;rw [Ee h];exact Dm _ _ _
theorem AF {p:PV} {k:Nat} (h:¬Ct p k=true):uT p (k+1)=uT p k:=by unfold uT;rw [Kz h]
theorem Bv (p:PV) {k j:Nat} (h:k≤j):uT p k≤uT p j:=by
 induction j with
 | zero=>rw [qM.1 h];exact aH _
 | succ j ih =>
   by_cases hk:k=j+1
   · rw [hk];exact aH _
   have h1:=ih sU;by_cases hn:Ct p j=true
   · rw [La hn];omega
   rw [AF hn];exact h1
theorem Gg {p:PV} (hR:sW p=true) {k:Nat} (hk:k<p.code.length) (h:Ct p k=true) {r:Int} (hr:0≤r∧r<p.regs):uI p (k+1) r=if (yX p k).to=r then (uT p k:Int) else uI p k r:=by
 unfold uI;rw [Ee h];have hl:=(xX hR k sU).hl;have ht:=(tZ (xU hR hk)).2.1;show ((tF p k).held.set (yX p k).to.toNat _)[r.toNat]?.getD default=_;rw [zR (by rw [hl];exact hr),cN ht.1];rfl
theorem AG {p:PV} {k:Nat} (h:¬Ct p k=true) (r:Int):uI p (k+1) r=uI p k r:=by unfold uI;rw [Kz h]
theorem Py {p:PV} (hR:sW p=true) {k:Nat} (hk:k≤p.code.length) {r:Int} (hr:0≤r∧r<p.regs):0≤uI p k r∧uI p k r<uT p k:=by
 have ok:=xX hR k hk;exact ok.hb _ (get_mem (by rw [ok.hl];exact hr))
theorem He {p:PV} (hR:sW p=true) {r:Int} (hr:0≤r∧r<p.regs) {k:Nat}:∀ (j:Nat),k≤j→j≤p.code.length→uI p j r<uT p k→uI p k r=uI p j r
 | 0,h,_,_=>by rw [qM.1 h]
 | j+1,h,hj,hv=>by
   by_cases hk:k=j+1
   · rw [hk]
   have hm:=Bv p (show k≤j by omega);by_cases hn:Ct p j=true
   · have e:=Gg hR sU hn hr;by_cases ht:(yX p j).to=r
     · rw [aE ht] at e;rw [e] at hv;omega
     rw [aC ht] at e;rw [e] at hv ⊢;exact He hR hr j sU sU hv
   rw [AG hn] at hv ⊢;exact He hR hr j sU sU hv
theorem AH {p:PV} (hR:sW p=true) {k:Nat} (hk:k<p.code.length):(0≤Cu p k∧Cu p k<uT p k)∧(0≤Cv p k∧Cv p k<uT p k):=
 ⟨TZ (xX hR k sU) (xU hR hk),UA (xX hR k sU) (xU hR hk)⟩
theorem UD {p:PV} (hR:sW p=true) {k:Nat} (hk:k<p.code.length):(∃ r,(0≤r∧r<p.regs)∧uI p k r=Cu p k)∧(∃ r,(0≤r∧r<p.regs)∧uI p k r=Cv p k):=by
 have hm:=tZ (xU hR hk);have h1:∃ r,(0≤r∧r<p.regs)∧uI p k r=Cu p k:=⟨(yX p k).a,hm.2.2.1,U⟩
 refine ⟨h1,?_⟩;by_cases h2:1<(tM (yX p k)).length
 · exact ⟨(yX p k).b,hm.2.2.2.1 (Nd h2),(aE h2).symm⟩
 obtain ⟨r,hr,e⟩:=h1;exact ⟨r,hr,e.trans (aC h2).symm⟩
theorem AI {p:PV} (hR:sW p=true) {k:Nat} (hk:k<p.code.length) (h:Ct p k=true) {v:Int} (hv:0≤v∧v<uT p k) :
 tl (tF p (k+1)) v=if v=Cu p k∨v=Cv p k then (k:Int) else tl (tF p k) v:=by
 obtain ⟨⟨ha0,ha1⟩,hb0,hb1⟩:=AH hR hk;unfold tl;rw [Ee h];show ((((tF p k).till.set (Cu p k).toNat (k:Int)).set (Cv p k).toNat (k:Int))++[-1])[v.toNat]?.getD default=_;have hv1:v.toNat<(tF p k).till.length:=by have:=hv.2;unfold uT at this;omega
 rw [bC (by rw [aI,aI];exact hv1)];unfold uT at hb1 ha1 hv;rw [zR (by rw [aI];exact hv),zR hv,cN ha0,cN hb0];by_cases e1:Cv p k=v
 · rw [aE e1,aE (.inr e1.symm)]
 rw [aC e1];by_cases e2:Cu p k=v
 · rw [aE e2,aE (.inl e2.symm)]
 rw [aC e2,aC (by rintro (h | h) <;> first | exact e2 h.symm | exact e1 h.symm)]
theorem eh {p:PV} {k:Nat} (h:Ct p k=true):tl (tF p (k+1)) (uT p k)=-1:=by
 unfold tl uT;rw [Ee h];show ((((tF p k).till.set _ _).set _ _)++[-1])[((((tF p k).till.length:Nat)):Int).toNat]?.getD default=_;rw [aG,cS (by rw [aI,aI];exact aH _),aI,aI,iX];rfl
def UE (p:PV) (t:Nat) (v:Int):Prop:=Ct p t=true∧(v=Cu p t∨v=Cv p t)
theorem Lb {p:PV} (hR:sW p=true):∀ (k:Nat),k≤p.code.length→∀ v:Int,0≤v∧v<uT p k→tl (tF p k) v=-1∨∃ t:Nat,t<k∧tl (tF p k) v=t∧UE p t v
 | 0,_,v,hv=>by
   left;show (List.replicate (p.ins.toNat+1) (-1:Int))[v.toNat]?.getD default=-1;have:uT p 0=p.ins.toNat+1:=aM;rw [dZ,aE (by omega)];rfl
 | k+1,hk,v,hv=>by
   by_cases hn:Ct p k=true
   · rw [La hn] at hv;by_cases hl:v<uT p k
     · rw [AI hR sU hn ⟨hv.1,hl⟩];by_cases hd:v=Cu p k∨v=Cv p k
       · rw [aE hd];exact .inr ⟨k,by omega,U,hn,hd⟩
       rw [aC hd];rcases Lb hR k sU v ⟨hv.1,hl⟩ with h | ⟨t,h1,h2,h3⟩
       · exact .inl h
       exact .inr ⟨t,by omega,h2,h3⟩
     have:v=uT p k:=sU;rw [this];exact .inl (eh hn)
   rw [AF hn] at hv;rw [Kz hn];rcases Lb hR k sU v hv with h | ⟨t,h1,h2,h3⟩
   · exact .inl h
   exact .inr ⟨t,by omega,h2,h3⟩
theorem KU {p:PV} (hR:sW p=true) {k:Nat} {v:Int} (hv:0≤v∧v<uT p k):∀ (j:Nat),k≤j→j≤p.code.length→tl (tF p k) v≤tl (tF p j) v
 | 0,h,_=>by rw [qM.1 h];exact lH _
 | j+1,h,hj=>by
   by_cases hk:k=j+1
   · rw [hk];exact lH _
   have h1:=KU hR hv j sU sU;have hm:=Bv p (show k≤j by omega);by_cases hn:Ct p j=true
   · rw [AI hR sU hn sU];split
     · rcases Lb hR k sU v hv with h2 | ⟨t,h2,h3,_⟩ <;> omega
     exact h1
   rw [Kz hn];exact h1
theorem KV (p:PV):∀ j,(wN p j).till.length=uT p p.code.length
 | 0=>rfl
 | j+1=>by show ((wN p j).till.set _ _).length=_;rw [aI];exact KV p j
theorem Gh (p:PV):∀ j,(wN p j).held=(tF p p.code.length).held
 | 0=>rfl
 | j+1=>Gh p j
theorem AJ {p:PV} (hR:sW p=true) {v:Int} (hv:0≤v∧v<uT p p.code.length):∀ (j:Nat),j≤p.outs.length→
 (tl (wN p j) v=tl (tF p p.code.length) v∨tl (wN p j) v=p.code.length∧∃ r,(0≤r∧r<p.regs)∧uI p p.code.length r=v)∧
 (∀ i:Nat,i<j→uI p p.code.length (p.outs[((i:Nat):Int).toNat]?.getD default)=v→tl (wN p j) v=p.code.length)
 | 0,_=>⟨.inl U,fun i hi=>by omega⟩
 | j+1,hj=>by
   obtain ⟨h1,h2⟩:=AJ hR hv j sU;have hr:=Px hR (show j<p.outs.length by omega);have hh:(wN p j).held[(p.outs[(j:Int).toNat]?.getD default).toNat]?.getD default=uI p p.code.length (p.outs[(j:Int).toNat]?.getD default):=by unfold uI;rw [Gh]
   have hin:=Py hR (aH _) hr;have e:tl (wN p (j+1)) v=if uI p p.code.length (p.outs[(j:Int).toNat]?.getD default)=v then (p.code.length:Int) else tl (wN p j) v:=by
    unfold tl;show ((wN p j).till.set _ _)[v.toNat]?.getD default=_;rw [hh,zR (by rw [KV];exact hv),cN hin.1]
   by_cases hd:uI p p.code.length (p.outs[((j:Nat):Int).toNat]?.getD default)=v
   · rw [aE hd] at e;exact ⟨.inr ⟨e,_,hr,hd⟩,fun _ _ _=>e⟩
   rw [aC hd] at e;rw [e];refine ⟨h1,fun i hi hiv=>?_⟩;by_cases hij:i=j
   · subst hij;exact absurd hiv hd
   exact h2 i sU hiv
def due (p:PV) (v:Int):Int:=tl (lifeP p) v
theorem el {p:PV} (hR:sW p=true) {k:Nat} {v:Int} (hk:k≤p.code.length) (hv:0≤v∧v<uT p k):tl (tF p k) v≤due p v:=by
 have h1:=KU hR hv p.code.length hk (aH _);have hv2:0≤v∧v<uT p p.code.length:=⟨hv.1,by have:=Bv p hk;omega⟩
 unfold due lifeP;rcases (AJ hR hv2 p.outs.length (aH _)).1 with h2 | ⟨h2,_⟩
 · rw [h2];exact h1
 rw [h2];rcases Lb hR p.code.length (aH _) v hv2 with h3 | ⟨t,h3,h4,_⟩ <;> omega
theorem Ni {p:PV} (hR:sW p=true) {k:Nat} (hk:k<p.code.length) {v:Int} (h:UE p k v):(k:Int)≤due p v:=by
 obtain ⟨hn,hd⟩:=h;have hin:=AH hR hk;have hv:0≤v∧v<uT p k:=by rcases hd with h | h <;> rw [h] <;> first | exact hin.1 | exact hin.2
 have h1:=el hR (k:=k+1) (v:=v) sU ⟨hv.1,by rw [La hn];omega⟩;rw [AI hR hk hn hv,aE hd] at h1;exact h1
theorem KW {p:PV} (hR:sW p=true) {i:Nat} (hi:i<p.outs.length):due p (uI p p.code.length (p.outs[((i:Nat):Int).toNat]?.getD default))=p.code.length:=
 (AJ hR (Py hR (aH _) (Px hR hi)) p.outs.length (aH _)).2 i hi U
theorem AK {p:PV} (hR:sW p=true) {v:Int} (hv:0≤v∧v<uT p p.code.length):due p v=-1∨(∃ t:Nat,t<p.code.length∧due p v=t∧UE p t v)∨(due p v=p.code.length∧∃ r,(0≤r∧r<p.regs)∧uI p p.code.length r=v):=by
 unfold due lifeP;rcases (AJ hR hv p.outs.length (aH _)).1 with h2 | h2
 · rw [h2];rcases Lb hR p.code.length (aH _) v hv with h | h
   · exact .inl h
   exact .inr (.inl h)
 exact .inr (.inr h2)
theorem Tb {p:PV} (hR:sW p=true) {k:Nat} (hk:k≤p.code.length) {v:Int} (hv:0≤v∧v<uT p k) (hd:(k:Int)≤due p v):∃ r,(0≤r∧r<p.regs)∧uI p k r=v:=by
 have hv2:0≤v∧v<uT p p.code.length:=⟨hv.1,by have:=Bv p hk;omega⟩
 rcases AK hR hv2 with h | ⟨t,ht,h,hn,ha⟩ | ⟨h,r,hr,e⟩
 · omega
 · have h9:=UD hR ht;have h8:∃ r,(0≤r∧r<p.regs)∧uI p t r=v:=by rcases ha with e | e <;> rw [e] <;> first | exact h9.1 | exact h9.2
   obtain ⟨r,hr,e⟩:=h8;exact ⟨r,hr,(He hR hr t sU sU (by rw [e];exact hv.2)).trans e⟩
 exact ⟨r,hr,(He hR hr p.code.length hk (aH _) (by rw [e];exact hv.2)).trans e⟩
theorem Nj {p:PV} (hR:sW p=true) {k:Nat} (hk:k<p.code.length):Ct p k=Bc p (yX p k).to (k+1):=by
 have h1:=az p hk;have h2:=KP p p.code k;unfold Ct;rw [OD hR,aG];have h3:(rf p p.code)[k]?=((rf p p.code).drop k)[0]?:=by rw [iR,iY]
 rw [h3,h2,h1];rfl
theorem EY {p:PV} (hR:sW p=true) {r:Int} (hr:0≤r∧r<p.regs):∀ (d j:Nat),j+d=p.code.length→Bc p r j=true→(j:Int)≤due p (uI p j r)
 | 0,j,hj,h=>by
   have hj':j=p.code.length:=sU;subst hj';rw [Sm p r (aH _),aO] at h;obtain ⟨i,hi,e⟩:=gP.1 h;have:=KW hR hi;rw [aG,aA hi,dI,e] at this;omega
 | d+1,j,hj,h=>by
   have hjn:j<p.code.length:=sU;have hcj:p.code[j]?.getD default=yX p j:=by unfold yX;rw [aG]
   rw [Om p r hjn,hcj,kP,aF,aF,aO,←Nj hR hjn] at h;rcases h with ⟨hn,ha⟩ | ⟨ht,hf⟩
   · refine Ni hR hjn ⟨hn,?_⟩;unfold tM at ha;split at ha
     · rename_i h34;rcases dD.1 ha with e | ha
       · left;rw [e];rfl
       right;rw [eD.1 ha];exact (aE (by rw [Pw];exact h34)).symm
     split at ha
     · left;rw [eD.1 ha];rfl
     cases ha
   have ih:=EY hR hr d (j+1) sU hf;have hne:¬(yX p j).to=r:=by simpa using ht
   by_cases hn:Ct p j=true
   · rw [Gg hR hjn hn hr,aC hne] at ih;omega
   rw [AG hn] at ih;omega
theorem ZB {p:PV} (hR:sW p=true) {k:Nat} (hk:k<p.code.length) (hn:Ct p k=true):((k+1:Nat):Int)≤due p (uT p k):=by
 have ht:=(tZ (xU hR hk)).2.1;have h1:=hn;rw [Nj hR hk] at h1;have h2:=EY hR ht (p.code.length - (k+1)) (k+1) sU h1;rw [Gg hR hk hn ht,aE rfl] at h2;exact h2
theorem KX (p:PV) {k:Nat}:∀ (j:Nat),k<j→(tF p j).a[((k:Nat):Int).toNat]?.getD default=(tF p (k+1)).a[((k:Nat):Int).toNat]?.getD default∧(tF p j).b[((k:Nat):Int).toNat]?.getD default=(tF p (k+1)).b[((k:Nat):Int).toNat]?.getD default∧(tF p j).sets[((k:Nat):Int).toNat]?.getD default=(tF p (k+1)).sets[((k:Nat):Int).toNat]?.getD default
 | 0,h=>absurd h (Nat.not_lt_zero _)
 | j+1,h=>by
   by_cases hk:k=j
   · rw [hk];exact ⟨U,U,U⟩
   have ih:=KX p (k:=k) j sU;by_cases hn:Ct p j=true
   · rw [Ee hn];refine ⟨?_,?_,?_⟩
     · show ((tF p j).a.set j _)[(k:Int).toNat]?.getD default=_;rw [cE,aC (by omega)];exact ih.1
     · show ((tF p j).b.set j _)[(k:Int).toNat]?.getD default=_;rw [cE,aC (by omega)];exact ih.2.1
     show ((tF p j).sets.set j _)[(k:Int).toNat]?.getD default=_;rw [cE,aC (by omega)];exact ih.2.2
   rw [Kz hn];exact ih
theorem KY (p:PV):∀ j,(wN p j).a=(tF p p.code.length).a∧(wN p j).b=(tF p p.code.length).b∧(wN p j).sets=(tF p p.code.length).sets
 | 0=>⟨U,U,U⟩
 | j+1=>KY p j
theorem Tc {l:List Int} {k:Nat} {x:Int} (h:k<l.length):(l.set k x)[((k:Nat):Int).toNat]?.getD default=x:=by
 rw [aG,pX h];rfl
theorem UF {p:PV} (hR:sW p=true) {k:Nat} (hk:k<p.code.length) (hn:Ct p k=true) :
 (lifeP p).a[((k:Nat):Int).toNat]?.getD default=Cu p k∧(lifeP p).b[((k:Nat):Int).toNat]?.getD default=Cv p k∧(lifeP p).sets[((k:Nat):Int).toNat]?.getD default=uT p k:=by
 obtain ⟨o1,o2,o3⟩:=KY p p.outs.length;obtain ⟨k1,k2,k3⟩:=KX p p.code.length hk;have ok:=xX hR k sU;unfold lifeP;rw [o1,o2,o3,k1,k2,k3,Ee hn];exact ⟨Tc (by rw [ok.al];exact hk),Tc (by rw [ok.bl];exact hk),Tc (by rw [ok.sl];exact hk)⟩
theorem IA:∀ (n:Nat) (f:Nat→Nat) (m:Nat),(∀ i,i<m→f i<n)→(∀ i j,i<m→j<m→f i=f j→i=j)→m≤n
 | 0,f,m,h,_=>by
   cases m with
   | zero=>exact aH _
   | succ m=>exact absurd (h 0 sU) (Nat.not_lt_zero _)
 | n+1,f,m,h,hi=>by
   by_cases hx:∃ i,i<m∧f i=n
   · obtain ⟨a,ha,hfa⟩:=hx;have:=IA n (fun i=>if i<a then f i else f (i+1)) (m - 1) (fun i hm=>by
      show (if i<a then f i else f (i+1))<n;split
      · have h1:=h i sU;have h2:f i≠n:=fun e=>by have:=hi i a sU ha (e.trans hfa.symm);omega
        omega
      · have h1:=h (i+1) sU;have h2:f (i+1)≠n:=fun e=>by have:=hi (i+1) a sU ha (e.trans hfa.symm);omega
        omega) (fun i j hi' hj' e=>by
      have e:(if i<a then f i else f (i+1))=(if j<a then f j else f (j+1)):=e;split at e <;> split at e
      · exact hi i j sU sU e
      · have:=hi i (j+1) sU sU e;omega
      · have:=hi (i+1) j sU sU e;omega
      have:=hi (i+1) (j+1) sU sU e;omega)
     omega
   have:=IA n f m (fun i hm=>by
    have h1:=h i hm;have h2:f i≠n:=fun e=>hx ⟨i,hm,e⟩;omega) hi
   omega
def yM (p:PV) (k:Nat) (v:Int):Prop:=(0≤v∧v<uT p k)∧(k:Int)≤due p v
def fr (s:Pl) (r:Int):Bool:=s.free[r.toNat]?.getD default
theorem If {l:List Bool} {k:Nat} {x:Bool} {r:Int} (hr:0≤r∧r<l.length):(l.set k x)[r.toNat]?.getD default=if (k:Int)=r then x else l[r.toNat]?.getD default:=by
 rw [cE];by_cases h:k=r.toNat
 · rw [aE h,aE (by omega),aE (by omega)];rfl
 rw [aC h,aC (by omega)]
theorem KZ {p:PV} {k:Nat} {s:Pl} {v r:Int} (hs:F3 s) (hr:0≤r∧r<s.free.length):fr (vU (lifeP p) k s v) r=(fr s r || decide (due p v=k∧stand s v=r)):=by
 have hv:=hs.ab v;unfold fr vU;by_cases h:(lifeP p).till[v.toNat]?.getD default=(k:Int)
 · rw [aE h];show (s.free.set _ true)[r.toNat]?.getD default=_;rw [If hr,cN hv.1];by_cases e:stand s v=r
   · rw [aE e,cL ⟨h,e⟩,Bool.or_true]
   rw [aC e,bN (fun x=>e x.2),rH]
 rw [aC h,bN (fun x=>h x.1),rH]
theorem AL {s:Pl} {v r:Int} (hr:0≤r∧r<(xA s v).free.length):fr (xA s v) r=if r=least s.free then false else fr s r:=by
 have hl:=Az s v;have hle:=Ay s.free;unfold fr xA;simp only;by_cases h:least s.free<s.free.length
 · rw [aE h] at hl ⊢;rw [If sU];by_cases e:r=least s.free
   · rw [aE e.symm,aE e]
   rw [aC (fun x=>e x.symm),aC e]
 rw [aC h] at hl ⊢;by_cases e:r=least s.free
 · rw [aE e,cS sU,e,aG,show least s.free - s.free.length=0 by omega];rfl
 rw [aC e,bC sU]
theorem IB {l:List Bool} (h:least l<l.length):l[least l]?.getD default=true:=by
 rw [aA h];unfold least at h ⊢;exact List.findIdx_getElem (w:=h)
theorem OL {l:List Bool} (h:¬least l<l.length) (r:Nat) (hr:r<l.length):l[r]?.getD default=false:=by
 have h1:l.findIdx (fun b=>b)=l.length:=by unfold least at h;have:=Ay l;unfold least at this;omega
 rw [aA hr];exact (List.findIdx_eq_length.1 h1) _ (bY hr)
structure I1 (p:PV) (k:Nat) (s:Pl):Prop where
 ok:F3 s
 i1:∀ v,yM p k v→fr s (stand s v)=false
 i2:∀ v w,yM p k v→yM p k w→stand s v=stand s w→v=w
 i3:∀ r:Int,0≤r∧r<s.free.length→fr s r=false→∃ v,yM p k v∧stand s v=r
 i5:(s.free.length:Int)≤p.regs
theorem Gi {p:PV} (hR:sW p=true) {k:Nat} (hk:k<p.code.length) (hn:¬Ct p k=true) {v:Int}:yM p (k+1) v↔yM p k v:=by
 unfold yM;rw [AF hn];constructor
 · rintro ⟨h1,h2⟩;exact ⟨h1,by omega⟩
 rintro ⟨h1,h2⟩;refine ⟨h1,?_⟩;have hv2:0≤v∧v<uT p p.code.length:=⟨h1.1,by have:=Bv p (show k≤p.code.length by omega);omega⟩
 rcases AK hR hv2 with h | ⟨t,ht,h,ha,_⟩ | ⟨h,_⟩
 · omega
 · by_cases e:t=k
   · subst e;exact absurd ha hn
   omega
 omega
theorem zF {p:PV} (hR:sW p=true) {k:Nat} (hk:k<p.code.length) (hn:Ct p k=true) {v:Int}:yM p (k+1) v↔v=uT p k∨(yM p k v∧due p v≠k):=by
 have hnew:=ZB hR hk hn;unfold yM;rw [La hn];constructor
 · rintro ⟨h1,h2⟩;by_cases e:v=uT p k
   · exact .inl e
   exact .inr ⟨⟨by omega,by omega⟩,by omega⟩
 rintro (e | ⟨⟨h1,h2⟩,h3⟩)
 · subst e;exact ⟨by omega,hnew⟩
 exact ⟨by omega,by omega⟩
theorem Xp {p:PV} (hR:sW p=true) {k:Nat} (hk:k<p.code.length) (hn:Ct p k=true):yM p k (Cu p k)∧yM p k (Cv p k):=
 ⟨⟨(AH hR hk).1,Ni hR hk ⟨hn,.inl U⟩⟩,⟨(AH hR hk).2,Ni hR hk ⟨hn,.inr U⟩⟩⟩
theorem UG {p:PV} (hR:sW p=true) {k:Nat} (hk:k<p.code.length) {v:Int} (ha:yM p k v) (hd:due p v=k):v=Cu p k∨v=Cv p k:=by
 have hv2:0≤v∧v<uT p p.code.length:=⟨ha.1.1,by have:=Bv p (show k≤p.code.length by omega);have:=ha.1.2;omega⟩
 rcases AK hR hv2 with h | ⟨t,ht,h,_,h4⟩ | ⟨h,_⟩
 · omega
 · have e:t=k:=sU;subst e;exact h4
 omega
def Dn (p:PV) (k:Nat) (s:Pl):Pl:=vU (lifeP p) k (vU (lifeP p) k s (Cu p k)) (Cv p k)
theorem Td (p:PV) (k:Nat) (s:Pl):(Dn p k s).free.length=s.free.length:=by unfold Dn;rw [wY,wY]
theorem EZ (p:PV) (k:Nat) (s:Pl) (w:Int):stand (Dn p k s) w=stand s w:=by unfold Dn;rw [Bo,Bo]
theorem ll {p:PV} {k:Nat} {s:Pl} (hs:F3 s) {r:Int} (hr:0≤r∧r<s.free.length):fr (Dn p k s) r=(fr s r || decide (due p (Cu p k)=k∧stand s (Cu p k)=r) || decide (due p (Cv p k)=k∧stand s (Cv p k)=r)):=by
 unfold Dn;rw [KZ (Bu hs) (by rw [wY];exact hr),KZ hs hr,Bo]
theorem FA {p:PV} {k:Nat} {s:Pl} (hs:F3 s) {r:Int} (hr:0≤r∧r<s.free.length):fr (Dn p k s) r=false↔fr s r=false∧¬(due p (Cu p k)=k∧stand s (Cu p k)=r)∧¬(due p (Cv p k)=k∧stand s (Cv p k)=r):=by
 rw [ll hs hr,qU,qU,fA,fA,and_assoc]
theorem left {p:PV} (hR:sW p=true) {k:Nat} (hk:k<p.code.length) (hn:Ct p k=true) {s:Pl} (h:I1 p k s) :
 (∀ v,yM p k v→due p v≠k→fr (Dn p k s) (stand s v)=false)∧(∀ r:Int,0≤r∧r<s.free.length→fr (Dn p k s) r=false→∃ v,yM p k v∧due p v≠k∧stand s v=r):=by
 obtain ⟨hA,hB⟩:=Xp hR hk hn;refine ⟨fun v hv hd=>?_,fun r hr hf=>?_⟩
 · rw [FA h.ok (h.ok.ab v)];refine ⟨h.i1 v hv,fun e=>?_,fun e=>?_⟩
   · have:=h.i2 _ _ hA hv e.2;rw [this] at e;exact hd e.1
   have:=h.i2 _ _ hB hv e.2;rw [this] at e;exact hd e.1
 rw [FA h.ok hr] at hf;obtain ⟨v,hv,e⟩:=h.i3 r hr hf.1;refine ⟨v,hv,fun hd=>?_,e⟩;rcases UG hR hk hv hd with h1 | h1
 · rw [h1] at hd e;exact hf.2.1 ⟨hd,e⟩
 rw [h1] at hd e;exact hf.2.2 ⟨hd,e⟩
theorem ZC {p:PV} (hR:sW p=true) {k:Nat} (hk:k<p.code.length) (hn:Ct p k=true) {s:Pl} (h:I1 p k s):I1 p (k+1) (xA (Dn p k s) (uT p k)):=by
 obtain ⟨l1,l2⟩:=left hR hk hn h;have hok2:F3 (Dn p k s):=Bu (Bu h.ok);have hlen:=Az (Dn p k s) (uT p k);have hle:=Ay (Dn p k s).free;have h2l:=Td p k s;have hst:∀ w,stand (xA (Dn p k s) (uT p k)) w=if w=uT p k then (least (Dn p k s).free:Int) else stand s w:=fun w=>by rw [Jb,EZ]
 have hold:∀ v,yM p k v→v≠uT p k:=fun v hv e=>by have:=hv.1.2;omega
 have hne:∀ v,yM p k v→due p v≠k→stand s v≠least (Dn p k s).free:=fun v hv hd e=>by
  have h1:=l1 v hv hd;have h3:=h.ok.ab v;by_cases hlt:least (Dn p k s).free<(Dn p k s).free.length
  · have:=IB hlt;unfold fr at h1;rw [e,aG,this] at h1;cases h1
  omega
 have hgl:∀ r:Int,r<(Dn p k s).free.length→r<(xA (Dn p k s) (uT p k)).free.length:=fun r hr=>by rw [hlen];split <;> omega
 have hrr:(least (Dn p k s).free:Int)<(xA (Dn p k s) (uT p k)).free.length:=by rw [hlen];split <;> omega
 refine ⟨KS hok2 _,fun v hv=>?_,fun v w hv hw e=>?_,fun r hr hf=>?_,?_⟩
 · rw [hst];rcases (zF hR hk hn).1 hv with e | ⟨ha,hd⟩
   · rw [aE e,AL ⟨by omega,hrr⟩,aE rfl]
   rw [aC (hold v ha)];have h3:=h.ok.ab v;rw [AL ⟨h3.1,hgl _ sU⟩,aC (hne v ha hd)];exact l1 v ha hd
 · rw [hst,hst] at e;rcases (zF hR hk hn).1 hv with ev | ⟨ha,hd⟩ <;> rcases (zF hR hk hn).1 hw with ew | ⟨ha',hd'⟩
   · rw [ev,ew]
   · rw [aE ev,aC (hold w ha')] at e;exact absurd e.symm (hne w ha' hd')
   · rw [aC (hold v ha),aE ew] at e;exact absurd e (hne v ha hd)
   rw [aC (hold v ha),aC (hold w ha')] at e;exact h.i2 v w ha ha' e
 · by_cases e:r=least (Dn p k s).free
   · exact ⟨uT p k,(zF hR hk hn).2 (.inl U),by rw [hst,aE rfl,e]⟩
   rw [AL hr,aC e] at hf;have hr2:r<s.free.length:=by rw [hlen] at hr;split at hr <;> omega
   obtain ⟨v,ha,hd,hs⟩:=l2 r ⟨hr.1,hr2⟩ hf;exact ⟨v,(zF hR hk hn).2 (.inr ⟨ha,hd⟩),by rw [hst,aC (hold v ha)];exact hs⟩
 rw [hlen];split
 · rw [h2l];exact h.i5
 rename_i hlt;obtain ⟨f1,f2,f3,_⟩:=sZ hR;have hto:=(tZ (xU hR hk)).2.1;have key:∀ r:Nat,r<s.free.length→∃ q:Nat,q<p.regs.toNat∧∃ v,stand s v=r∧uI p (k+1) q=v∧v<uT p k:=fun r hr=>by
  have hf:fr (Dn p k s) (r:Int)=false:=by unfold fr;rw [aG];exact OL hlt r sU
  obtain ⟨v,ha,hd,hs⟩:=l2 r sU hf;have ha2:=(zF hR hk hn).2 (.inr ⟨ha,hd⟩);obtain ⟨q,hq,e⟩:=Tb hR (show k+1≤p.code.length by omega) ha2.1 ha2.2;exact ⟨q.toNat,by omega,v,hs,by rw [cN hq.1];exact e,ha.1.2⟩
 have hm:=IA p.regs.toNat (fun r=>if hr:r<s.free.length then Classical.choose (key r hr) else (yX p k).to.toNat) (s.free.length+1) (fun i hi=>by
  show (if hr:i<s.free.length then _ else _)<_;split
  · rename_i hr;exact (iB (key i hr)).1
  · omega) (fun i j hi hj e=>by
  have e:(if hr:i<s.free.length then Classical.choose (key i hr) else (yX p k).to.toNat)=(if hr:j<s.free.length then Classical.choose (key j hr) else (yX p k).to.toNat):=e;have hnew:uI p (k+1) (((yX p k).to.toNat:Nat):Int)=uT p k:=by rw [cN hto.1,Gg hR hk hn hto,aE rfl]
  split at e <;> split at e
  · rename_i h1 h3;obtain ⟨_,v,a1,a2,a3⟩:=iB (key i h1);obtain ⟨_,w,b1,b2,b3⟩:=iB (key j h3);rw [e,b2] at a2;rw [←a2,b1] at a1;omega
  · rename_i h1 h3;obtain ⟨_,v,a1,a2,a3⟩:=iB (key i h1);rw [e,hnew] at a2;omega
  · rename_i h1 h3;obtain ⟨_,w,b1,b2,b3⟩:=iB (key j h3);rw [←e,hnew] at b2;omega
  omega)
 rw [h2l];omega
theorem Xq {p:PV} {r:Int} (hr:0≤r∧r<p.regs):uI p 0 r=min r p.ins:=by
 unfold uI;show ((List.range p.regs.toNat).map fun (r:Nat)=>min (r:Int) p.ins)[r.toNat]?.getD default=_;rw [bQ,eF sU];show min ((r.toNat:Nat):Int) p.ins=_;rw [cN hr.1]
theorem Xr (p:PV):uT p 0=p.ins.toNat+1:=aM
theorem FB {l:Life} {s:Pl} {n:Nat} (hl:s.free.length=n) (h:∀ v:Int,0≤v∧v<n→stand s v=v∧fr s v=decide (tl l v<0)) (v:Int) (hv:0≤v∧v<n+1) :
 stand (Ng s n (l.till[((n:Nat):Int).toNat]?.getD default)) v=v∧fr (Ng s n (l.till[((n:Nat):Int).toNat]?.getD default)) v=decide (tl l v<0):=by
 have h1:stand (Ng s n (l.till[(n:Int).toNat]?.getD default)) v=if v=n then (s.free.length:Int) else stand s v:=Nh s _ v _ _;rw [h1];by_cases e:v=n
 · subst e;rw [aE rfl];refine ⟨by omega,?_⟩;unfold fr;show (s.free++[_])[(n:Int).toNat]?.getD default=_;rw [aG,cS sU,hl,iX];rfl
 rw [aC e];obtain ⟨h2,h3⟩:=h v sU;refine ⟨h2,?_⟩;rw [←h3];unfold fr;show (s.free++[_])[v.toNat]?.getD default=_;rw [bC sU]
theorem Te (l:Life):∀ (n:Nat) (v:Int),0≤v∧v<n→stand (Ax l n) v=v∧fr (Ax l n) v=decide (tl l v<0)
 | 0,v,h=>sU
 | n+1,v,h=>FB (Bt l n) (Te l n) v sU
theorem Xs {p:PV} (h1:1≤p.ins):(((Be p (lifeP p)).free.length:Int)=p.ins∨(((Be p (lifeP p)).free.length:Int)=p.ins+1∧0≤due p p.ins))∧(0≤due p p.ins→((Be p (lifeP p)).free.length:Int)=p.ins+1)∧
 ∀ v:Int,0≤v∧v<(Be p (lifeP p)).free.length→stand (Be p (lifeP p)) v=v∧fr (Be p (lifeP p)) v=decide (due p v<0):=by
 have hl:=Bt (lifeP p) p.ins.toNat;have hs:=Te (lifeP p) p.ins.toNat;unfold Be;by_cases hd:0≤(lifeP p).till[p.ins.toNat]?.getD default
 · rw [aE hd];have hl2:(Ng (Ax (lifeP p) p.ins.toNat) p.ins ((lifeP p).till[p.ins.toNat]?.getD default)).free.length=p.ins.toNat+1:=by
    show ((Ax (lifeP p) p.ins.toNat).free++[_]).length=_;rw [aD,hl];rfl
   rw [hl2];refine ⟨.inr ⟨by omega,hd⟩,fun _=>by omega,fun v hv=>?_⟩;have:=FB hl hs v sU;rw [aG,cN (by omega:0≤p.ins)] at this;exact this
 rw [aC hd,hl];refine ⟨.inl sU,fun h=>absurd h hd,fun v hv=>hs v sU⟩
theorem UI {p:PV} (hR:sW p=true):I1 p 0 (Be p (lifeP p)):=by
 obtain ⟨f1,f2,f3,_⟩:=sZ hR;obtain ⟨g1,g2,g3⟩:=Xs f1;have hz:=Xr p;have hin:∀ v,yM p 0 v→0≤v∧v<(Be p (lifeP p)).free.length:=fun v hv=>by
  have h1:=hv.1;have h2:=hv.2;by_cases e:v=p.ins
  · subst e;have:=g2 h2;omega
  rcases g1 with g1 | g1 <;> omega
 refine ⟨(Hd f1 _).1,fun v hv=>?_,fun v w hv hw e=>?_,fun r hr hf=>?_,?_⟩
 · rw [(g3 v (hin v hv)).1,(g3 v (hin v hv)).2];have:=hv.2;exact bN sU
 · rw [(g3 v (hin v hv)).1,(g3 w (hin w hw)).1] at e;exact e
 · have h1:=(g3 r hr).2;rw [hf] at h1;have h2:=mD h1.symm;exact ⟨r,⟨⟨hr.1,by rcases g1 with g1 | g1 <;> omega⟩,by omega⟩,(g3 r hr).1⟩
 rcases g1 with g1 | ⟨g1,g4⟩
 · omega
 obtain ⟨r,hr,e⟩:=Tb hR (aP _) (v:=p.ins) sU g4;rw [Xq hr] at e;omega
theorem Nk {p:PV} (hR:sW p=true) {k:Nat} (hk:k<p.code.length) (hn:Ct p k=true) :
 tY p (k+1)=⟨xA (Dn p k (tY p k).s) (uT p k),max (tY p k).regs ((least (Dn p k (tY p k).s).free:Int)+1),
  (tY p k).code++[⟨(yX p k).op,least (Dn p k (tY p k).s).free,stand (tY p k).s (Cu p k),if 1<(tM (yX p k)).length then stand (tY p k).s (Cv p k) else (yX p k).b,(yX p k).c⟩]⟩:=by
 obtain ⟨h1,h2,h3⟩:=UF hR hk hn;have e:tY p (k+1)=Ja (lifeP p) (tY p k) k (yX p k):=aE hn;rw [e];unfold Ja;simp only;rw [h1,h2,h3];rfl
theorem FC {p:PV} {k:Nat} (hn:¬Ct p k=true):tY p (k+1)=tY p k:=aC hn
theorem Gj {p:PV} (hR:sW p=true):∀ k,k≤p.code.length→I1 p k (tY p k).s∧(tY p k).regs=(tY p k).s.free.length
 | 0,_=>by
   refine ⟨UI hR,?_⟩;have:=(Hd (sZ hR).1 (lifeP p)).2.1;show max p.ins ((Be p (lifeP p)).free.length:Int)=((Be p (lifeP p)).free.length:Int);omega
 | k+1,hk=>by
   obtain ⟨h1,h2⟩:=Gj hR k sU;by_cases hn:Ct p k=true
   · rw [Nk hR sU hn];refine ⟨ZC hR sU hn h1,?_⟩;show max (tY p k).regs ((least (Dn p k (tY p k).s).free:Int)+1)=((xA (Dn p k (tY p k).s) (uT p k)).free.length:Int);have hle:=Ay (Dn p k (tY p k).s).free;have hl:=Td p k (tY p k).s;rw [Az,h2];split <;> omega
   rw [FC hn];refine ⟨⟨h1.ok,fun v hv=>h1.i1 v ((Gi hR sU hn).1 hv),fun v w hv hw=>h1.i2 v w ((Gi hR sU hn).1 hv) ((Gi hR sU hn).1 hw),fun r hr hf=>?_,h1.i5⟩,h2⟩;obtain ⟨v,hv,e⟩:=h1.i3 r hr hf;exact ⟨v,(Gi hR sU hn).2 hv,e⟩
theorem Hf {p:PV} (hR:sW p=true) {k:Nat}:∀ j,k≤j→j≤p.code.length→(tY p k).s.free.length≤(tY p j).s.free.length
 | 0,h,_=>by rw [qM.1 h];exact aH _
 | j+1,h,hj=>by
   by_cases e:k=j+1
   · rw [e];exact aH _
   have ih:=Hf hR j (by omega:k≤j) sU;by_cases hn:Ct p j=true
   · rw [Nk hR sU hn];show _≤(xA (Dn p j (tY p j).s) (uT p j)).free.length;rw [Az,Td];split <;> omega
   rw [FC hn];exact ih
theorem UJ {i:I5} {r r':Int} (h:tH i r=true) (hr:r≤r'):tH i r'=true:=by
 rw [tS] at h ⊢;obtain ⟨⟨h1,h2,h3,h4,h5,h6⟩,h7⟩:=h;refine ⟨⟨h1,h2,h3,by omega,h5,by omega⟩,?_⟩;by_cases h34:i.op=3∨i.op=4
 · rw [aE h34] at h7 ⊢;exact ⟨h7.1,by omega,h7.2.2⟩
 rw [aC h34] at h7 ⊢;exact h7
theorem UK {i:I5} {regs R:Int} (h:tH i regs=true) {t a b:Int} (ht:0≤t∧t<R) (ha:0≤a∧a<R) (hb:0≤b∧b<R) :
 tH ⟨i.op,t,a,if 1<(tM i).length then b else i.b,i.c⟩ R=true:=by
 rw [tS] at h ⊢;obtain ⟨⟨h1,h2,h3,h4,h5,h6⟩,h7⟩:=h;refine ⟨⟨h1,h2,ht.1,ht.2,ha.1,ha.2⟩,?_⟩;by_cases h34:i.op=3∨i.op=4
 · rw [aE h34] at h7;rw [aE ((Pw i).2 h34)];exact (aE h34).symm▸⟨hb.1,hb.2,h7.2.2⟩
 rw [aC h34] at h7;rw [aC (fun e=>h34 ((Pw i).1 e))];exact (aC h34).symm▸h7
theorem AM {p:PV} (hR:sW p=true):∀ k,k≤p.code.length→(∀ i∈(tY p k).code,tH i (tY p k).regs=true)∧(tY p k).code.length≤k
 | 0,_=>⟨fun i hi=>absurd hi (sN),aH _⟩
 | k+1,hk=>by
   obtain ⟨h1,h2⟩:=AM hR k sU;obtain ⟨o1,o2⟩:=Gj hR k sU;obtain ⟨p1,p2⟩:=Gj hR (k+1) hk;have hg:=Hf hR (k+1) (show k≤k+1 by omega) hk;have hle:=Ay (Dn p k (tY p k).s).free;have h2l:=Td p k (tY p k).s;by_cases hn:Ct p k=true
   · have hm:=xU hR (show k<p.code.length by omega);have hA:=o1.ok.ab (Cu p k);have hB:=o1.ok.ab (Cv p k);have hreg:(tY p (k+1)).regs=max (tY p k).regs ((least (Dn p k (tY p k).s).free:Int)+1):=by rw [Nk hR sU hn]
     have hcode:(tY p (k+1)).code=(tY p k).code++[⟨(yX p k).op,least (Dn p k (tY p k).s).free,stand (tY p k).s (Cu p k),if 1<(tM (yX p k)).length then stand (tY p k).s (Cv p k) else (yX p k).b,(yX p k).c⟩]:=by rw [Nk hR sU hn]
     rw [hcode];refine ⟨fun i hi=>?_,by rw [aD];show _+1≤_;omega⟩;rcases dR.1 hi with h | h
     · exact UJ (h1 i h) sU
     rw [eD.1 h];exact UK hm sU sU sU
   rw [FC hn];exact ⟨h1,by omega⟩
theorem FD {p:PV} (hR:sW p=true):sW (tV p)=true:=by
 obtain ⟨f1,f2,f3,f4,f5,f6,f7,f8⟩:=sZ hR;obtain ⟨o1,o2⟩:=Gj hR p.code.length (aH _);obtain ⟨c1,c2⟩:=AM hR p.code.length (aH _);have hg:=Hf hR p.code.length (aP _) (aH _);have h0:=(Hd f1 (lifeP p)).2.1;have h0':p.ins≤(tY p 0).s.free.length:=h0;have h5:=o1.i5;have hol:=Sz p;have hlen:(tV p).outs.length=p.outs.length:=by show ((lifeP p).outs.map _).length=_;rw [aT];exact hol
 refine EM ⟨f1,?_,?_,?_,by omega,by omega⟩ ?_ c1
 · show p.ins≤(tY p p.code.length).regs;omega
 · show (tY p p.code.length).regs≤128;omega
 · show (tY p p.code.length).code.length≤_;omega
 intro r hr;obtain ⟨v,_,rfl⟩:=cT.1 (show r∈(lifeP p).outs.map _ from hr);have:=o1.ok.ab v;show _∧_<(tY p p.code.length).regs;omega
def rowAt (rs:List (List Int)) (r:Int):List Int:=rs[r.toNat]?.getD []
structure Sem (p:PV) (gs:List (List Int)) (k:Nat) (rs qs:List (List Int)) (E:Int→List Int):Prop where
 run:wQ p gs k=some rs
 pack:zQ (tY p k).code (vR (tV p) gs)=some qs
 rl:(rs.length:Int)=p.regs
 ql:(qs.length:Int)=(tV p).regs
 old:∀ r:Int,0≤r∧r<p.regs→Bc p r k=true→rowAt rs r=E (uI p k r)
 new:∀ v,yM p k v→rowAt qs (stand (tY p k).s v)=E v
theorem AN {l:List (List Int)} {k:Nat} {x:List Int} {r:Int} (hr:0≤r∧r<l.length):rowAt (l.set k x) r=if (k:Int)=r then x else rowAt l r:=Ke hr
theorem UL {p:PV} {gs:List (List Int)} (hR:sW p=true) (hg:(gs.length:Int)=p.ins) :
 Sem p gs 0 (vR p gs) (vR (tV p) gs) (fun v=>if v<gs.length then rowAt gs v else List.replicate (gs[0]?.getD []).length 0):=by
 obtain ⟨f1,f2,f3,_⟩:=sZ hR;obtain ⟨g1,g2,g3⟩:=Xs f1;have hq:=(Gj hR p.code.length (aH _)).2;have hgr:=Hf hR p.code.length (aP _) (aH _);have hqr:(tV p).regs=(tY p p.code.length).regs:=rfl;have hz:=Xr p;have row:∀ (q:PV) (r:Int),0≤r∧r<q.regs→rowAt (vR q gs) r=if r<gs.length then rowAt gs r else List.replicate (gs[0]?.getD []).length 0:=fun q r hr=>by
  unfold rowAt;rw [Fw sU];by_cases h:r<gs.length
  · rw [aE h,aE (by omega)]
  rw [aC h,aC (by omega)]
 refine ⟨U,U,by rw [vW];omega,by rw [vW];omega,fun r hr _=>?_,fun v hv=>?_⟩
 · rw [row p r hr,Xq hr];by_cases h:r<gs.length
   · rw [aE h];show _=if min r p.ins<_ then _ else _;rw [show min r p.ins=r by omega,aE h]
   rw [aC h];show _=if min r p.ins<_ then _ else _;rw [aC (by omega)]
 have h1:=hv.1;have h2:=hv.2;have hvf:v<(Be p (lifeP p)).free.length:=by
  by_cases e:v=p.ins
  · subst e;have:=g2 h2;omega
  rcases g1 with g1 | g1 <;> omega
 have h3:=(g3 v ⟨h1.1,hvf⟩).1;have h3':stand (tY p 0).s v=v:=h3;have hf0:(tY p 0).s.free.length=(Be p (lifeP p)).free.length:=rfl;rw [h3',row (tV p) v ⟨h1.1,by rw [hqr,hq];omega⟩]
theorem UM {i:I5} {regs:Int} (hm:tH i regs=true) {rs qs:List (List Int)} {t a b:Int} (ha:rowAt qs a=rowAt rs i.a) (hb:1<(tM i).length→rowAt qs b=rowAt rs i.b) :
 zP ⟨i.op,t,a,if 1<(tM i).length then b else i.b,i.c⟩ qs=zP i rs:=by
 rw [Kd,Kd];show XK i.op i.c (rowAt qs a) (rowAt qs (if 1<(tM i).length then b else i.b))=XK i.op i.c (rowAt rs i.a) (rowAt rs i.b);rw [ha];by_cases h2:1<(tM i).length
 · rw [aE h2,hb h2]
 rw [aC h2];exact Zi (fun e=>h2 ((Pw i).2 e)) _ _ _ _
theorem UN {p:PV} {gs:List (List Int)} (hR:sW p=true) {k:Nat} (hk:k<p.code.length) {rs qs:List (List Int)} {E:Int→List Int} (h:Sem p gs k rs qs E) {y:List Int} (hd:zP (yX p k) rs=some y) :
 ∃ qs' E',Sem p gs (k+1) (rs.set (yX p k).to.toNat y) qs' E':=by
 have hm:=xU hR hk;obtain ⟨m1,m2,m3,m4,_⟩:=tZ hm;have hcj:p.code[k]?.getD default=yX p k:=by unfold yX;rw [aG]
 have hstep:=fun r=>Om p r hk;have hneed:=Nj hR hk;rw [hcj] at hstep;have hrun:wQ p gs (k+1)=some (rs.set (yX p k).to.toNat y):=Es (x:=[]) h.run hd;have hrl:((rs.set (yX p k).to.toNat y).length:Int)=p.regs:=by rw [aI];exact h.rl
 by_cases hn:Ct p k=true
 · obtain ⟨hA,hB⟩:=Xp hR hk hn;obtain ⟨o1,o2⟩:=Gj hR k sU;obtain ⟨p1,p2⟩:=Gj hR (k+1) sU;have hq:=(Gj hR p.code.length (aH _)).2;have hg0:=Hf hR p.code.length (show k≤p.code.length by omega) (aH _);have hg1:=Hf hR p.code.length (show k+1≤p.code.length by omega) (aH _);have hqr:(tV p).regs=(tY p p.code.length).s.free.length:=hq;have hle:=Ay (Dn p k (tY p k).s).free;have h2l:=Td p k (tY p k).s;have hglen:=Az (Dn p k (tY p k).s) (uT p k);have hs':(tY p (k+1)).s=xA (Dn p k (tY p k).s) (uT p k):=by rw [Nk hR hk hn]
   have hc':(tY p (k+1)).code=(tY p k).code++[⟨(yX p k).op,least (Dn p k (tY p k).s).free,stand (tY p k).s (Cu p k),if 1<(tM (yX p k)).length then stand (tY p k).s (Cv p k) else (yX p k).b,(yX p k).c⟩]:=by rw [Nk hR hk hn]
   have hst:∀ w,stand (tY p (k+1)).s w=if w=uT p k then (least (Dn p k (tY p k).s).free:Int) else stand (tY p k).s w:=fun w=>by rw [hs',Jb,EZ]
   have hlR:(least (Dn p k (tY p k).s).free:Int)<(tV p).regs:=by
    rw [hqr];have:(least (Dn p k (tY p k).s).free)<(tY p (k+1)).s.free.length:=by rw [hs',hglen];split <;> omega
    omega
   have hold:∀ v,yM p k v→v≠uT p k:=fun v hv e=>by have:=hv.1.2;omega
   have asked:∀ r,r∈tM (yX p k)→Bc p r k=true:=fun r hr=>by
    rw [hstep r,←hneed,hn,cL hr];rfl
   have haM:(yX p k).a∈tM (yX p k):=by
    unfold tM;split
    · exact aQ
    exact aQ
   have eA:rowAt qs (stand (tY p k).s (Cu p k))=rowAt rs (yX p k).a:=by
    rw [h.new _ hA,h.old _ m3 (asked _ haM)];rfl
   have eB:1<(tM (yX p k)).length→rowAt qs (stand (tY p k).s (Cv p k))=rowAt rs (yX p k).b:=fun h2=>by
    have hbM:(yX p k).b∈tM (yX p k):=by
     unfold tM;rw [aE (Nd h2)];exact aL _ aQ
    rw [h.new _ hB,h.old _ (m4 (Nd h2)) (asked _ hbM)];show E (Cv p k)=E _;congr 1;exact aE h2
   refine ⟨qs.set (least (Dn p k (tY p k).s).free) y,fun v=>if v=uT p k then y else E v,hrun,?_,hrl,by rw [aI];exact h.ql,fun r hr hf=>?_,fun v hv=>?_⟩
   · rw [hc',Dw,h.pack];show (zP _ qs).map _=_;rw [UM hm eA eB,hd];rfl
   · have hrow:rowAt (rs.set (yX p k).to.toNat y) r=if (((yX p k).to.toNat:Nat):Int)=r then y else rowAt rs r:=AN (by rw [h.rl];exact hr);rw [hrow,cN m2.1,Gg hR hk hn hr];by_cases e:(yX p k).to=r
     · rw [aE e,aE e,aE rfl]
     rw [aC e,aC e];have hin:=Py hR (show k≤p.code.length by omega) hr;rw [aC (by omega)];refine h.old r hr ?_;rw [hstep r,hf,bN e];simp
   have hsb:=p1.ok.ab v;rw [AN ⟨hsb.1,by rw [h.ql,hqr];omega⟩,hst];rcases (zF hR hk hn).1 hv with e | ⟨ha,hdv⟩
   · rw [aE e,aE rfl,aE e]
   have e:=hold v ha;rw [aC e,aC e];have hne:¬((least (Dn p k (tY p k).s).free:Int)=stand (tY p k).s v):=fun x=>by
    have h9:=p1.i2 v (uT p k) hv ((zF hR hk hn).2 (.inl U)) (by rw [hst,hst,aC e,aE rfl];exact x.symm);exact e h9
   rw [aC hne];exact h.new v ha
 refine ⟨qs,E,hrun,by rw [FC hn];exact h.pack,hrl,h.ql,fun r hr hf=>?_,fun v hv=>?_⟩
 · have hne:¬(yX p k).to=r:=fun e=>by subst e;rw [←hneed] at hf;exact hn hf
   have hrow:rowAt (rs.set (yX p k).to.toNat y) r=if (((yX p k).to.toNat:Nat):Int)=r then y else rowAt rs r:=AN (by rw [h.rl];exact hr);rw [hrow,cN m2.1,aC hne,AG hn];refine h.old r hr ?_;rw [hstep r,hf,bN hne];simp
 rw [FC hn];exact h.new v ((Gi hR hk hn).1 hv)
theorem LA {p:PV} {gs:List (List Int)} (hR:sW p=true) (hg:(gs.length:Int)=p.ins) {rn:List (List Int)} (hr:wQ p gs p.code.length=some rn):∀ k,k≤p.code.length→∃ rs qs E,Sem p gs k rs qs E
 | 0,_=>⟨_,_,_,UL hR hg⟩
 | k+1,hk=>by
   obtain ⟨rs,qs,E,h⟩:=LA hR hg hr k sU;cases hd:zP (yX p k) rs with
   | none =>
     have h1:wQ p gs (k+1)=none:=by
      unfold wQ;rw [h.run];simp only [dX];show (zP (yX p k) rs).map _=none;rw [hd];rfl
     have h2:=In h1 (p.code.length - (k+1));rw [show k+1+(p.code.length - (k+1))=p.code.length by omega,hr] at h2;cases h2
   | some y =>
     obtain ⟨qs',E',h'⟩:=UN hR sU h hd;exact ⟨_,_,_,h'⟩
theorem Jc (p:PV):∀ j,j≤p.outs.length→(wN p j).outs=(p.outs.take j).map (uI p p.code.length)
 | 0,_=>by rw [dP];exact Aw p _
 | j+1,hj=>by
   show (wN p j).outs++[(wN p j).held[_]?.getD default]=_;rw [Jc p j sU,Gh,gH (by omega:j<p.outs.length),jV,aG,aA (by omega:j<p.outs.length)];rfl
theorem AO {p:PV} {gs os:List (List Int)} (hR:sW p=true) (hg:(gs.length:Int)=p.ins) (h:tJ p gs=some os):tJ (tV p) gs=some os:=by
 obtain ⟨f1,f2,f3,f4,f5,f6,f7,f8⟩:=sZ hR;unfold tJ at h;obtain ⟨rn,h1,h2⟩:=fK.1 h;obtain ⟨rs,qs,E,hs⟩:=LA hR hg h1 p.code.length (aH _);have e:rs=rn:=by have:=hs.run;rw [h1] at this;exact (jU this).symm
 subst e;have hp:wQ (tV p) gs (tV p).code.length=some qs:=by
  rw [Ad _ _ _ (aH _),bI];exact hs.pack
 unfold tJ;rw [hp,←h2];show some (wV (tV p) qs)=some (wV p rs);congr 1;have ho:(lifeP p).outs=p.outs.map (uI p p.code.length):=by
  unfold lifeP;rw [Jc p _ (aH _),bI]
 show ((lifeP p).outs.map (stand (tY p p.code.length).s)).map _=p.outs.map _;rw [ho,pW,pW];refine lX fun r hr=>?_;have hin:=f7 r hr;obtain ⟨i,hi,hri⟩:=gP.1 hr;have hdue:=KW hR hi;rw [aG,aA hi,dI,hri] at hdue;have hal:yM p p.code.length (uI p p.code.length r):=⟨Py hR (aH _) hin,by omega⟩
 have hf:Bc p r p.code.length=true:=by rw [Sm p r (aH _)];exact cL hr
 show rowAt qs (stand (tY p p.code.length).s (uI p p.code.length r))=rowAt rs r;rw [hs.new _ hal,hs.old r hin hf]
theorem Nl {N:Nat}:∀ (l:List I5) (rs:List (List Int)),Flat N rs→(∀ i∈l,HS rs.length i)→
 (∀ r',zQ l rs=some r'→Flat N r'∧r'.length=rs.length∧∀ j,j<N→wO l (Dp j rs)=some (Dp j r'))∧(zQ l rs=none→∃ j,j<N∧wO l (Dp j rs)=none)
 | [],rs,he,_=>⟨fun r' h=>by cases h;exact ⟨he,U,fun j _=>rfl⟩,fun h=>by cases h⟩
 | i :: l,rs,he,hi=>by
   obtain ⟨h1,h2⟩:=KF he (hi i tW).1 (hi i tW).2;unfold zQ wO;cases hd:zP i rs with
   | none =>
     refine ⟨fun r' h=>yA,fun _=>?_⟩;obtain ⟨j,hj,hz⟩:=h2 hd;exact ⟨j,hj,by rw [hz];rfl⟩
   | some x =>
     obtain ⟨hx,hc⟩:=h1 x hd;obtain ⟨g1,g2⟩:=Nl l (rs.set i.to.toNat x) (flat_set he hx) (fun q hq=>by rw [aI];exact hi q (by simp [hq]));refine ⟨fun r' h=>?_,fun h=>?_⟩
     · obtain ⟨k1,k2,k3⟩:=g1 r' h;refine ⟨k1,by rw [k2,aI],fun j hj=>?_⟩;rw [hc j hj];show wO l ((Dp j rs).set i.to.toNat (x[j]?.getD 0))=_;rw [←Pr];exact k3 j hj
     obtain ⟨j,hj,hz⟩:=g2 h;refine ⟨j,hj,?_⟩;rw [hc j hj];show wO l ((Dp j rs).set i.to.toNat (x[j]?.getD 0))=_;rw [←Pr];exact hz
theorem Ig {p q:PV} {gs os:List (List Int)} {N:Nat} (hR:sW p=true) (hQ:sW q=true) (hi:q.ins=p.ins) (ho:q.outs.length=p.outs.length) (hg:(gs.length:Int)=p.ins) (hN:Flat N gs)
 (hans:∀ zs ys:List Int,(zs.length:Int)=p.ins→Fg p zs=some ys→Fg q zs=some ys) (h:tJ p gs=some os):tJ q gs=some os:=by
 obtain ⟨f1,f2,f3,f4,f5,f6,f7,f8⟩:=sZ hR;obtain ⟨k1,k2,k3,k4,k5,k6,k7,k8⟩:=sZ hQ;have hfp:=Mv (p:=p) hN sU;have hfq:=Mv (p:=q) hN sU;unfold tJ at h ⊢;rw [Ad p gs _ (aH _),bI] at h;rw [Ad q gs _ (aH _),bI];obtain ⟨r',hr',rfl⟩:=fK.1 h;obtain ⟨p1,p2,p3⟩:=(Nl p.code (vR p gs) hfp (fun i hi=>HT (f8 i hi) (by rw [vW];omega))).1 r' hr';have hcol:∀ j,j<N→Fg q (Dp j gs)=some (zU p (Dp j r')):=fun j hj=>by
  refine hans _ _ (by rw [zV];exact hg) ?_;unfold Fg;rw [wS p _ _ (aH _),bI,←Kp sU,p3 j hj];rfl
 have hq:=Nl q.code (vR q gs) hfq (fun i hi=>HT (k8 i hi) (by rw [vW];omega));cases hrq:zQ q.code (vR q gs) with
 | none =>
   obtain ⟨j,hj,hz⟩:=hq.2 hrq;have h9:=hcol j hj;unfold Fg at h9;rw [wS q _ _ (aH _),bI,←Kp sU,hz] at h9;cases h9
 | some s' =>
   obtain ⟨q1,q2,q3⟩:=hq.1 s' hrq;show some (wV q s')=some (wV p r');congr 1;unfold wV;apply gS
   · rw [aT,aT,ho]
   intro k g1 g2;rw [aT] at g1 g2;rw [gE,gE];have hrp:=f7 p.outs[k] (bY g2);have hrq2:=k7 q.outs[k] (bY g1);have lp:=Df p1 (k:=p.outs[k].toNat) (by rw [p2,vW];omega);have lq:=Df q1 (k:=q.outs[k].toNat) (by rw [q2,vW];omega);apply gS
   · omega
   intro j j1 j2;have h9:=hcol j sU;unfold Fg at h9;rw [wS q _ _ (aH _),bI,←Kp sU,q3 j sU] at h9;have h10:zU q (Dp j s')=zU p (Dp j r'):=by
    have:=fK.1 h9;obtain ⟨z,e1,e2⟩:=this;cases e1;exact e2
   unfold zU at h10;have h11:=congrArg (fun l:List Int=>l[k]?) h10;simp only [bQ,aA g1,aA g2,fV,bU,Gc] at h11;rw [aA j1,aA j2] at h11;exact h11
theorem FE {p:PV} {gs os:List (List Int)} {N:Nat} (hR:sW p=true) (hg:(gs.length:Int)=p.ins) (hN:Flat N gs) (h:tJ p gs=some os):tJ (Av p) gs=some os:=
 Ig hR (Sw hR) U U hg hN (fun zs ys hz h9=>by rw [TY hR hz];exact h9) h
def bd (A:List Bool) (r s:List Int):Prop:=r.length=s.length∧∀ k:Nat,A[k]?.getD default=true→r[k]?.getD 0=s[k]?.getD 0
theorem OM {i:I5} {r s:List Int} (ha:r[i.a.toNat]?.getD 0=s[i.a.toNat]?.getD 0) (hb:i.op=3∨i.op=4→r[i.b.toNat]?.getD 0=s[i.b.toNat]?.getD 0):Bb i r=Bb i s:=by
 unfold Bb;simp only [ha];by_cases h34:i.op=3∨i.op=4
 · rw [hb h34]
 have h3:¬i.op=3:=fun e=>h34 (.inl e);have h4:¬i.op=4:=fun e=>h34 (.inr e);simp only [h3,h4,eQ]
theorem IC (p:PV) (i:I5) (l:List I5):Ks p (i :: l)=if (nf p l).1[i.to.toNat]?.getD default=true∧¬wR i then i :: Ks p l else Ks p l:=by
 by_cases hc:(nf p l).1[i.to.toNat]?.getD default=true
 · have e:(nf p (i :: l)).2=true :: (nf p l).2:=by simp only [nf];rw [aE hc]
   unfold Ks;rw [e,mF];by_cases hd:wR i
   · rw [aC (fun h=>h.2 hd),List.filterMap_cons_none (Iy (fun h=>h.2 hd))]
   rw [aE ⟨hc,hd⟩,List.filterMap_cons_some (Si ⟨rfl,hd⟩)]
 have e:(nf p (i :: l)).2=false :: (nf p l).2:=by simp only [nf];rw [aC hc]
 unfold Ks;rw [e,mF,aC (fun h=>hc h.1),List.filterMap_cons_none (Iy (fun h=>by cases h.1))]
theorem Lc {p:PV} (hm:∀ i∈p.code,tH i p.regs=true):∀ (l:List I5),(∀ i∈l,i∈p.code)→∀ (r s r':List Int),(r.length:Int)=p.regs→bd (nf p l).1 r s→wO l r=some r'→∃ s',wO (Ks p l) s=some s'∧bd (nf p []).1 r' s'
 | [],_,r,s,r',_,h,h1=>by cases h1;exact ⟨s,U,h⟩
 | i :: l,hl,r,s,r',hlen,h,h1=>by
   have hmi:=hm i (hl i tW);obtain ⟨m1,m2,m3,m4,m5,m6,m7,m8⟩:=tZ hmi;have hA:((nf p l).1.length:Int)=p.regs:=by rw [(TQ p l).1];omega
   unfold wO at h1;obtain ⟨x,hx,h1⟩:=mQ.1 h1;obtain ⟨hl1,hag⟩:=h;have hl':∀ j∈l,j∈p.code:=fun j hj=>hl j (by simp [hj]);have hlen':((r.set i.to.toNat x).length:Int)=p.regs:=by rw [aI];exact hlen
   rw [IC];by_cases hasked:(nf p l).1[i.to.toNat]?.getD default=true
   · have e:(nf p (i :: l)).1=vL ((nf p l).1.set i.to.toNat false) (tM i):=by simp only [nf];rw [aE hasked]
     rw [e] at hag;have hstep:∀ k:Nat,(nf p l).1[k]?.getD default=true→k≠i.to.toNat→r[k]?.getD 0=s[k]?.getD 0:=fun k hk hne=>by
      have hkA:k<(nf p l).1.length:=by
       rcases aN k (nf p l).1.length with h | h
       · exact h
       rw [bV h] at hk;cases hk
      refine hag k ?_;have hg:=Sk hA hmi (r:=(k:Int)) sU;rw [aG] at hg;rw [hg,hk,bN (show ¬i.to=(k:Int) by omega)];simp
     have hin:∀ q∈tM i,r[q.toNat]?.getD 0=s[q.toNat]?.getD 0:=fun q hq=>by
      have hqr:=Pv hmi q hq;refine hag q.toNat ?_;rw [Sk hA hmi hqr,cL hq,Bool.true_or]
     have haa:i.a∈tM i:=by
      unfold tM;split
      · exact aQ
      first | exact aQ | (rw [aE m1];exact aQ)
     have hd:=OM (hin _ haa) (fun h34=>hin _ ai);by_cases hno:wR i
     · rw [aC (fun h=>h.2 hno)];refine Lc hm l hl' (r.set i.to.toNat x) s r' hlen' ⟨by rw [aI];exact hl1,fun k hk=>?_⟩ h1;rw [get_set];split
       · rename_i hkk;obtain ⟨rfl,hk2⟩:=hkk;have hxa:x=r[i.to.toNat]?.getD 0:=by
          obtain ⟨n1,n2⟩:=hno;unfold Bb at hx;simp [n1] at hx;rw [←hx,n2]
         rw [hxa];have:=hin i.a haa;rw [←hno.2] at this;exact this
       rename_i hkk;refine hstep k hk (fun hk3=>hkk ⟨hk3.symm,?_⟩);omega
     rw [aE ⟨hasked,hno⟩];show ∃ s',((Bb i s).bind fun x=>wO (Ks p l) (s.set i.to.toNat x))=some s'∧_;rw [←hd,hx];refine Lc hm l hl' (r.set i.to.toNat x) (s.set i.to.toNat x) r' hlen' ⟨by rw [aI,aI];exact hl1,fun k hk=>?_⟩ h1;rw [get_set,get_set];by_cases hkk:i.to.toNat=k
     · rw [aE ⟨hkk,by omega⟩,aE ⟨hkk,by omega⟩]
     rw [aC (fun h=>hkk h.1),aC (fun h=>hkk h.1)];exact hstep k hk (fun h=>hkk h.symm)
   rw [aC (fun h=>hasked h.1)];have e:(nf p (i :: l)).1=(nf p l).1:=by simp only [nf];rw [aC hasked]
   rw [e] at hag;refine Lc hm l hl' (r.set i.to.toNat x) s r' hlen' ⟨by rw [aI];exact hl1,fun k hk=>?_⟩ h1;rw [get_set,aC ?_]
   · exact hag k hk
   rintro ⟨rfl,_⟩;exact hasked hk
theorem UO {p:PV} {zs os:List Int} (hR:sW p=true) (hz:(zs.length:Int)=p.ins) (h:Fg p zs=some os):Fg (Bi p) zs=some os:=by
 obtain ⟨f1,f2,f3,f4,f5,f6,f7,f8⟩:=sZ hR;have hl:(wD p zs).length=p.regs.toNat:=by unfold wD;rw [aD,aM];omega
 unfold Fg at h ⊢;rw [wS p _ _ (aH _),bI] at h;rw [wS (Bi p) _ _ (aH _),bI];obtain ⟨r',hr',rfl⟩:=fK.1 h;obtain ⟨s',hs',hag⟩:=Lc f8 p.code (fun i hi=>hi) (wD p zs) (wD p zs) r' sU ⟨U,fun k _=>rfl⟩ hr';rw [OC];show (wO (Ks p p.code) (wD p zs)).map (zU (Bi p))=_;rw [hs'];show some (zU p s')=some (zU p r');congr 1;unfold zU;apply lX;intro q hq;refine (hag.2 q.toNat ?_).symm;show (vL (List.replicate p.regs.toNat false) p.outs)[q.toNat]?.getD default=true;rw [Xk sU f7 (f7 q hq),cL hq]
theorem FG {p:PV} {gs os:List (List Int)} {N:Nat} (hR:sW p=true) (hg:(gs.length:Int)=p.ins) (hN:Flat N gs) (h:tJ p gs=some os):tJ (Bi p) gs=some os:=
 Ig hR (Sh hR) U U hg hN (fun zs ys hz h9=>UO hR hz h9) h
def vN (m:Nat) (p:PV):PV:=if m % 3=0 then Av p else if m % 3=1 then yJ p else Bi p
def wP (p:PV):Nat→PV
 | 0=>p
 | k+1=>vN k (wP p k)
def AP (m:Nat):ByteArray:=if m % 3=0 then ⟨#[102,111,108,100]⟩ else if m % 3=1 then ⟨#[115,104,97,114,101]⟩ else ⟨#[100,101,97,100]⟩
def Xt:ByteArray:=⟨#[112,97,99,107]⟩
def yN (p:PV):Nat:=((List.range 15).find? fun n=>decide (wP p (3*n+3)=wP p (3*n))).getD 15
def Ef (p:PV):Nat:=3*yN p+3
structure NP where
 name:ByteArray
 p:PV
def vH (p:PV):List NP:=(List.range (Ef p)).map (fun k=>⟨AP k,wP p (k+1)⟩)++[⟨Xt,tV (wP p (Ef p))⟩]
theorem LB (p:PV):yN p≤15:=by
 unfold yN;cases h:(List.range 15).find? fun n=>decide (wP p (3*n+3)=wP p (3*n)) with
 | none=>exact aH _
 | some n =>
   have:=List.mem_of_find?_eq_some h;rw [jD] at this;show n≤15;omega
theorem UP (p:PV):yN p=15∨wP p (3*yN p+3)=wP p (3*yN p):=by
 unfold yN;cases h:(List.range 15).find? fun n=>decide (wP p (3*n+3)=wP p (3*n)) with
 | none=>exact .inl U
 | some n =>
   have:=List.find?_some h;exact .inr (gX this)
theorem UQ (p:PV) {n:Nat} (hn:n<yN p):¬wP p (3*n+3)=wP p (3*n):=by
 have h15:=LB p;intro he;unfold yN at hn;cases h:(List.range 15).find? fun n=>decide (wP p (3*n+3)=wP p (3*n)) with
 | none =>
   rw [h] at hn;have hn15:n<15:=hn;rw [List.find?_eq_none] at h;exact h n (by rw [jD];exact hn15) (by simpa using he)
 | some m =>
   rw [h] at hn;have hn':n<m:=hn;rw [List.find?_range_eq_some] at h;have:=h.2.2 n hn';simp [he] at this
theorem Cj (p:PV):(vH p).length=Ef p+1:=by unfold vH;rw [aD,aT,cM];rfl
theorem Xu (p:PV) {k:Nat} (hk:k<Ef p):(vH p)[k]?=some ⟨AP k,wP p (k+1)⟩:=by
 unfold vH;rw [bC (by rw [aT,cM];exact hk),bQ,eF hk];rfl
theorem zG (p:PV):(vH p)[Ef p]?=some ⟨Xt,tV (wP p (Ef p))⟩:=by
 unfold vH;rw [cS (by rw [aT,cM];exact aH _),aT,cM,iX];rfl
theorem Tf {p:PV} (h:sW p=true) (m:Nat):sW (vN m p)=true:=by
 unfold vN;split
 · exact Sw h
 split
 · exact EK h
 exact Sh h
theorem xY {p:PV} (h:sW p=true):∀ k,sW (wP p k)=true
 | 0=>h
 | k+1=>Tf (xY h k) k
theorem ON {p:PV} (h:sW p=true) (m:Nat):(vN m p).ins=p.ins∧(vN m p).outs.length=p.outs.length∧(vN m p).code.length≤p.code.length:=by
 unfold vN;split
 · exact ⟨U,U,ER p⟩
 split
 · exact ⟨U,by show (wL _ _).length=_;unfold wL;rw [aT],(Zz h _ (aH _)).2.1⟩
 exact ⟨U,U,Iw p _⟩
theorem Ld {p:PV} (h:sW p=true):∀ k,(wP p k).ins=p.ins∧(wP p k).outs.length=p.outs.length∧(wP p k).code.length≤p.code.length
 | 0=>⟨U,U,aH _⟩
 | k+1=>by
   obtain ⟨e1,e2,e3⟩:=Ld h k;obtain ⟨g1,g2,g3⟩:=ON (xY h k) k;show (vN k (wP p k)).ins=_∧_∧_;exact ⟨by rw [g1,e1],by show (vN k (wP p k)).outs.length=_;rw [g2,e2],by show (vN k (wP p k)).code.length≤_;omega⟩
theorem Jd {p:PV} {gs os:List (List Int)} {N:Nat} (hR:sW p=true) (hg:(gs.length:Int)=p.ins) (hN:Flat N gs) (h:tJ p gs=some os):∀ k,tJ (wP p k) gs=some os
 | 0=>h
 | k+1=>by
   have ih:=Jd hR hg hN h k;have hk:=xY hR k;have hi:=(Ld hR k).1;show tJ (vN k (wP p k)) gs=_;unfold vN;split
   · exact FE hk (by rw [hi];exact hg) hN ih
   split
   · rw [CS hk (by rw [hi];exact hg)];exact ih
   exact FG hk (by rw [hi];exact hg) hN ih
theorem FH {p:PV} (hR:sW p=true):(tV p).ins=p.ins∧(tV p).outs.length=p.outs.length∧(tV p).code.length≤p.code.length:=by
 refine ⟨U,?_,(AM hR _ (aH _)).2⟩;show ((lifeP p).outs.map _).length=_;rw [aT];have:=Jc p p.outs.length (aH _);show (wN p p.outs.length).outs.length=_;rw [this,bI,aT]
theorem ID {p:PV} (hR:sW p=true) {k:Nat} {x:NP} (h:(vH p)[k]?=some x):sW x.p=true∧x.p.ins=p.ins∧x.p.outs.length=p.outs.length∧x.p.code.length≤p.code.length∧
 ∀ (gs os:List (List Int)) (N:Nat),(gs.length:Int)=p.ins→Flat N gs→tJ p gs=some os→tJ x.p gs=some os:=by
 have hlt:k<(vH p).length:=(aW.1 h).1;rw [Cj] at hlt;rcases aN k (Ef p) with hk | hk
 · rw [Xu p hk] at h;cases h;obtain ⟨e1,e2,e3⟩:=Ld hR (k+1);exact ⟨xY hR _,e1,e2,e3,fun gs os N hg hN h=>Jd hR hg hN h _⟩
 have:k=Ef p:=sU;subst this;rw [zG] at h;cases h;obtain ⟨e1,e2,e3⟩:=Ld hR (Ef p);obtain ⟨g1,g2,g3⟩:=FH (xY hR (Ef p));refine ⟨FD (xY hR _),by rw [g1,e1],by rw [g2,e2],by show (tV _).code.length≤_;omega,fun gs os N hg hN h=>AO (xY hR _) (by rw [e1];exact hg) (Jd hR hg hN h _)⟩
def pu (s:Pl) (bm bp:Nat) (a:J0 Addr) (c:Nat) (junk:List Value):Hp:=
 [(0,some bp,.cells #[.map (some bm),.slice a s.free.length c] 140),(1,some bm,A4 s.at_),(2,a.map (·.block),Row 4 s.free junk)]
theorem vg (G:A2) (p:PV) (ac ao:J0 Addr) (cc co:Nat) (r:Int) :
 Does Tryz.prog 142 [.agg (J1 p ac cc ao co),.int .i64 r] G [] (fun v G' Ho=>v=.int .i64 (min r p.ins)∧G'=G∧Ho=[]):=by
 refine D0 Tryz.func142 Tryz.ntmps142 fun w=>?_;refine aK 2 [] ?_;refine eG 0 fun b1=>?_;refine aS 8 [0] ?_;refine aZ (Qy.min U U) ?_;refine aY 4 [] ?_;refine cG ?_;refine ⟨?_,U,U⟩;congr 1;split <;> omega
theorem UR {l:List Bool} {k:Nat} (hk:k<l.length) (h:∀ j:Nat,j<k→l[j]?.getD default=false) (hb:l[k]?.getD default=true):least l=k:=by
 unfold least;rw [List.findIdx_eq hk];rw [aA hk] at hb;refine ⟨hb,fun j hj=>?_⟩;have:=h j hj;rw [aA sU] at this;exact this
theorem IE {l:List Bool} (h:∀ j:Nat,j<l.length→l[j]?.getD default=false):least l=l.length:=by
 unfold least;rw [List.findIdx_eq_length];intro x hx;obtain ⟨j,hj,rfl⟩:=gP.1 hx;have:=h j hj;rw [aA hj] at this;exact this
theorem c82 (G:A2) (s:Pl) (bm bp:Nat) (a:J0 Addr) (c:Nat) (junk:List Value) (v u:Int) (ho:A3 a c s.free junk) (hl:s.free.length≤1048576) :
 Does Tryz.prog 82 [.pointer (some ⟨bp,0,none⟩),.int .i64 v,.int .i64 u] G (pu s bm bp a c junk) (fun r G' Ho=>∃ a' c' j',r=.tuple #[]∧A3 a' c' (Ng s v u).free j'∧G'=G∧Ho=pu (Ng s v u) bm bp a' c' j'):=by
 refine D0 Tryz.func82 Tryz.ntmps82 fun w=>?_;refine dG ?_;refine dL [2,1,0] [(1,10)] T.mixed [[0],[1],[2],[3,0],[4],[5],[6],[7],[8,0],[9]] ?_;refine dB 10 ?_;refine Wl.mapUpdate 1 T.mp137 U U U U ?_;refine fB ?_;refine oR 9 [0] ?_;refine eH (α:=Bool) 3 [(Decidable.decide (u<0))] U T.sl138 T.el4 U U U U U fun b1=>?_;refine iP (α:=Bool) 2 T.sl138 T.el4 (eP 3 U) fun a1 c1 junk1 ho1=>?_;refine aY 4 [0] ?_;refine lW [0,1,2] tI (jX (.inl U) U  (lI 0 _) ?_);exact ⟨a1,c1,junk1,U,ho1,U,U⟩
theorem US (s:Pl) (v:Int) (h:least s.free<s.free.length):xA s v=⟨Bk s.at_ v (least s.free),s.free.set (least s.free) false⟩:=by unfold xA;rw [aE h]
theorem ZD (s:Pl) (v:Int) (h:¬least s.free<s.free.length):xA s v=⟨Bk s.at_ v (least s.free),s.free++[false]⟩:=by unfold xA;rw [aC h]
theorem c84 (G:A2) (s:Pl) (bm bp:Nat) (a:J0 Addr) (c:Nat) (junk:List Value) (v:Int) (ho:A3 a c s.free junk) (hl:s.free.length≤1048576) (hm:A9 s.at_ v=none) :
 Does Tryz.prog 84 [.pointer (some ⟨bp,0,none⟩),.int .i64 v] G (pu s bm bp a c junk) (fun r G' Ho=>∃ a' c' j',r=.int .i64 (least s.free)∧A3 a' c' (xA s v).free j'∧G'=G∧Ho=pu (xA s v) bm bp a' c' j'):=by
 refine D0 Tryz.func84 Tryz.ntmps84 fun w=>?_;refine bJ 5 [] ?_;refine pH ?_;refine bJ 15 [0] ?_;refine gZ (ι:=Nat) (fun k=>([(12,.int .i64 (k:Int)),(4,.int .i64 0),(11,.int .i64 (↑(List.length (Pl.free s)):Int)),(10,.slice a (List.length (Pl.free s)) c),(0,.pointer (some (Addr.mk bp 0 none))),(1,.int .i64 v)],[(0,some bp,.cells #[Go.Value.map (some bm),.slice a (List.length (Pl.free s)) c] 140),(1,some bm,Go.Sl.A4 (κ:=Int) (Pl.at_ s)),(2,Option.map (fun x=>Go.Addr.block x) a,Row (α:=Bool) 4 (Pl.free s) (junk))])) (fun k=>k≤s.free.length∧∀ j:Nat,j<k→s.free[j]?.getD default=false) (fun k=>s.free.length - k) (0) (⟨aP _,fun j hj=>by omega⟩) fun k=>fun hk=>?_;obtain ⟨hk1,hk2⟩:=hk;rcases aN k s.free.length with hlt | hge
 · refine aK 14 [1] ?_;refine gY (α:=Bool) T.sl138 ?_;refine jS 2 0 T.one4 ?_;refine bG 11 [] ?_;refine mE U (fun hc1=>?_) fun hc1=>?_;refine bE 8 [] ?_;rotate_left;refine bJ 3 [] ?_;refine dL [2,1,0] [(0,15),(2,15),(1,13),(1,11)] T.mixed [[0],[1],[2],[3,0],[4],[5],[6],[7],[8,0],[9],[10]] ?_;refine dB 11 ?_;refine Wl.mapEntry 1 U T.mp137 U U U sV ?_;refine bW ?_;refine eO [[12]] ?_;refine dB 13 ?_;refine rE 1 U U U U ?_;refine bW ?_;refine iA (α:=Bool) 14 T.sl138 ?_;refine dB 15 ?_;refine dJ (z:=_) 2 T.size4 U U U sV sU U fun ho1=>?_;refine fB ?_;refine fI 13 [] ?_;refine nG ?_;refine lW [0,1,2] tI (cW (.inr U) U (.tmp U) (lI 0 _) ?_);rotate_left
   · refine cO (k+1) ?_ ?_
     · refine ⟨hlt,fun j hj=>?_⟩;by_cases hjk:j=k
       · subst hjk;rw [aG] at hc1;simpa using hc1
       exact hk2 j sU
     show s.free.length - (k+1)<s.free.length - k;omega
   rw [aG] at hc1;have hle:least s.free=k:=UR hlt hk2 (by simpa using hc1);have hg:=US s v (by rw [hle];exact hlt);rw [hle] at hg;rw [aG] at ho1;refine ⟨a,c,junk,by rw [hle],by rw [hg];exact ho1,U,?_⟩;rw [hg,zA _ _ _ hm,aG];show _=[(0,some bp,.cells #[.map (some bm),.slice a (s.free.set k false).length c] 140),(1,some bm,A4 (s.at_++[(v,(k:Int))])),(2,a.map (·.block),Row 4 (s.free.set k false) junk)];rw [aI];rfl
 refine bJ 13 [0] ?_;refine dL [2,1,0] [(1,10)] T.mixed [[0],[1],[2],[3,0],[4],[5],[6],[7],[8,0],[9]] ?_;refine dB 10 ?_;refine Wl.mapUpdate 1 T.mp137 U U U U ?_;refine fB ?_;refine oR 8 [0] ?_;refine eH (α:=Bool) 3 [(Bool.false)] U T.sl138 T.el4 U U U U U fun b1=>?_;refine iP (α:=Bool) 2 T.sl138 T.el4 (eP 3 U) fun a1 c1 junk1 ho1=>?_;refine aS 12 [0,0] ?_;refine aZ (Jn U U) ?_;refine aY 4 [] ?_;refine nG ?_;refine lW [0,1,2] tI (cW (.inr U) U (.tmp U) (lI 0 _) ?_);have hke:k=s.free.length:=sU;have hle:least s.free=s.free.length:=IE (fun j hj=>hk2 j sU);have hg:=ZD s v (by rw [hle];omega);refine ⟨a1,c1,junk1,?_,by rw [hg];exact ho1,U,?_⟩
 · rw [hle,aD];show Value.int .i64 (IntKind.i64.wrap (((s.free.length+1:Nat):Int) - 1))=_;rw [show (((s.free.length+1:Nat):Int) - 1)=s.free.length by omega,iI _ sU]
 rw [hg,hle];rfl
end Go.Proofs.YtfdcckcadfhpeaaGreatDoor
