/- uP of the proof (part 7): what the rows' text needs of the texts that lead to it. -/
import Derived.Test.YtkdelpdbjfpgmaaGreatDoorMHf
set_option linter.unusedVariables false
set_option linter.unusedSimpArgs false
set_option linter.unusedSectionVars false
set_option maxHeartbeats 4000000
set_option maxRecDepth 100000
namespace Go.Proofs.YtkdelpdbjfpgmaaGreatDoor
open Go Go.Sl
def OW (i:Sl.Instr) (σ:Int→Int):Option Int:=
 if i.op=2 then some (-σ i.a)
 else if i.op=3 then some (σ i.a+σ i.b)
 else if i.op=4 then some (σ i.a - σ i.b)
 else if i.op=5∨i.op=7 then some (σ i.a*cst i)
 else if i.op=6∨i.op=8 then (if σ i.a % cst i=0 then some (σ i.a / cst i) else none)
 else some (σ i.a)
def upd (σ:Int→Int) (r v:Int):Int→Int:=fun x=>if x=r then v else σ x
theorem uG (σ:Int→Int) (r v:Int):upd σ r v r=v:=aF U
theorem tX (σ:Int→Int) {r x:Int} (v:Int) (h:x≠r):upd σ r v x=σ x:=aD h
theorem Wv (σ:Int→Int) (r v w:Int):upd (upd σ r v) r w=upd σ r w:=by
 funext x;unfold upd;split <;> rfl
theorem Jx (σ:Int→Int) (r:Int):upd σ r (σ r)=σ:=by
 funext x;unfold upd;split
 · rename_i h;rw [h]
 rfl
def vS:List Sl.Instr→(Int→Int)→Option (Int→Int)
 | [],σ=>some σ
 | i :: l,σ=>(OW i σ).bind fun x=>vS l (upd σ i.to x)
theorem AM (l m:List Sl.Instr) (σ:Int→Int):vS (l++m) σ=(vS l σ).bind (vS m):=by
 induction l generalizing σ with
 | nil=>rfl
 | cons i l ih =>
   show (OW i σ).bind (fun x=>vS (l++m) (upd σ i.to x))=((OW i σ).bind fun x=>vS l (upd σ i.to x)).bind (vS m);cases OW i σ with
   | none=>rfl
   | some x=>exact ih _
theorem tP {l m:List Sl.Instr} {σ σ1 σ2:Int→Int} (h1:vS l σ=some σ1) (h2:vS m σ1=some σ2):vS (l++m) σ=some σ2:=by
 rw [AM,h1];exact h2
theorem Cx {i:Sl.Instr} {σ:Int→Int} {x:Int} (h:OW i σ=some x):vS [i] σ=some (upd σ i.to x):=by
 show (OW i σ).bind (fun x=>some (upd σ i.to x))=_;rw [h];rfl
theorem Od (to a b:Int) (σ:Int→Int):vS [⟨3,to,a,b,0⟩] σ=some (upd σ to (σ a+σ b)):=Cx U
theorem Jy (to a b:Int) (σ:Int→Int):vS [⟨4,to,a,b,0⟩] σ=some (upd σ to (σ a - σ b)):=Cx U
theorem uW (to x c:Int) (σ:Int→Int):vS (sW to x c) σ=some (upd σ to (c*σ x)):=by
 unfold sW;by_cases h0:c=0
 · rw [aF h0,Jy,h0,rV,eN]
 rw [aD h0];by_cases h1:c=1∧to=x
 · rw [aF h1,h1.1,h1.2,dP,Jx];rfl
 rw [aD h1];by_cases h2:c=1
 · rw [aF h2,h2,dP];rfl
 rw [aD h2];by_cases h3:c=-1
 · rw [aF h3,h3,gN,dP];rfl
 rw [aD h3];refine (Cx (x:=σ x*c) ?_).trans (by rw [cG]);unfold OW;rw [aD (show ¬((5:Int)=2) by decide),aD (show ¬((5:Int)=3) by decide),aD (show ¬((5:Int)=4) by decide),aF (.inl rfl),Zp (.inl rfl)]
theorem AN (to c:Int) (σ:Int→Int) (hc:c≠0) (hd:c ∣ σ to):vS (xR to c) σ=some (upd σ to (σ to / c)):=by
 unfold xR;by_cases h1:c=1
 · rw [aF h1,h1,Int.ediv_one,Jx];rfl
 rw [aD h1];by_cases h2:c=-1
 · rw [aF h2,h2,Int.ediv_neg,Int.ediv_one];rfl
 rw [aD h2];refine Cx ?_;unfold OW;rw [aD (show ¬((6:Int)=2) by decide),aD (show ¬((6:Int)=3) by decide),aD (show ¬((6:Int)=4) by decide),aD (show ¬((6:Int)=5∨(6:Int)=7) by decide),aF (.inl rfl),Zp (.inr rfl)];exact aF (Int.emod_eq_zero_of_dvd hd)
theorem Uh (to g:Int) (hg:g≠0):∀ (m:Nat) (σ:Int→Int) (v:Int),σ to=g ^ m*v→vS ((List.replicate m (xR to g)).flatten) σ=some (upd σ to v)
 | 0,σ,v,h=>by
   rw [lA,dP] at h;rw [←h,Jx];rfl
 | m+1,σ,v,h=>by
   have e:σ to=g*(g ^ m*v):=by rw [h,gP];ac_rfl
   rw [oO,rT];refine (tP (AN to g σ hg ⟨_,e⟩) (Uh to g hg m _ v ?_)).trans ?_
   · rw [uG,e,pN _ hg]
   rw [Wv]
def Qg (to c:Int):Int→Int→Nat→List Sl.Instr
 | fr,k,0=>sW to fr k
 | fr,k,e+1=>if 512<k*c∨k*c < -512 then sW to fr k++Qg to c to c e else Qg to c fr (k*c) e
def Am (to a c:Int) (e:Nat):List Sl.Instr:=
 if (c=0∧0<e)∨c=1∨c=-1 then sW to a (if c=-1∧e % 2=0 then 1 else c) else Qg to c a 1 e
theorem Qh (to c:Int):∀ (e:Nat) (fr k:Int) (σ:Int→Int),vS (Qg to c fr k e) σ=some (upd σ to (σ fr*(k*c ^ e)))
 | 0,fr,k,σ=>by
   unfold Qg;rw [uW,lA,gT,cG]
 | e+1,fr,k,σ=>by
   unfold Qg;split
   · refine (tP (uW to fr k σ) (Qh to c e to c _)).trans ?_;rw [Wv,uG];congr 2;rw [gP];ac_rfl
   rw [Qh to c e fr (k*c) σ];congr 2;rw [gP];ac_rfl
theorem Fc (e:Nat):(-1:Int) ^ e=if e % 2=0 then 1 else -1:=by
 induction e with
 | zero=>rfl
 | succ e ih =>
   rw [gP,ih];by_cases h:e % 2=0
   · rw [aF h,aD (by omega)];rfl
   rw [aD h,aF (by omega)];rfl
theorem OX (to a c:Int) (e:Nat) (σ:Int→Int):vS (Am to a c e) σ=some (upd σ to (σ a*c ^ e)):=by
 unfold Am;by_cases h:(c=0∧0<e)∨c=1∨c=-1
 · rw [aF h,uW];congr 2;rw [cG];congr 1;rcases h with ⟨rfl,h⟩ | rfl | rfl
   · rw [aD (fun h=>absurd h.1 sY),rU sN]
   · rw [aD (fun h=>absurd h.1 sY),Int.one_pow]
   rw [Fc];by_cases he:e % 2=0
   · rw [aF ⟨rfl,he⟩,aF he]
   rw [aD (fun h=>he h.2),aD he]
 rw [aD h,Qh,dP]
def uN (wh:List R2) (k:Int):R2:=wh[k.toNat]?.getD default
def Bv (wh:List R2) (k i:Int):Int:=bezS (uN wh k).a (uN wh k).b*(uN wh i).a+bezT (uN wh k).a (uN wh k).b*(uN wh i).b
def An (wh:List R2) (k i:Int):Int:=(uN wh k).a*(uN wh i).b - (uN wh i).a*(uN wh k).b
def Cc (n:Int) (wh:List R2) (k:Int) (e:Nat) (i:Int):List Sl.Instr:=
 (if Bv wh k i≠0∨e=0 then Am (3*n) k (Bv wh k i) e++[⟨4,i,i,3*n,0⟩] else [])++(if An wh k i=1 then [] else xR i (An wh k i))
def yU (n:Int) (wh:List R2) (k:Int) (e:Nat):List Int→List Sl.Instr
 | []=>[]
 | i :: left=>Cc n wh k e i++yU n wh k e left
theorem AO {n:Int} {wh:List R2} {k:Int} {e:Nat} {i:Int} {σ:Int→Int} {y:Int} (hk:k≠3*n) (hi:i≠3*n) (hd:An wh k i≠0) (hy:σ i - σ k*Bv wh k i ^ e=An wh k i*y) :
 ∃ σ',vS (Cc n wh k e i) σ=some σ'∧σ' i=y∧∀ r,r≠i→r≠3*n→σ' r=σ r:=by
 obtain ⟨σ1,h1,h2,h3⟩:∃ σ1,vS (if Bv wh k i≠0∨e=0 then Am (3*n) k (Bv wh k i) e++[⟨4,i,i,3*n,0⟩] else []) σ=some σ1∧σ1 i=An wh k i*y∧∀ r,r≠i→r≠3*n→σ1 r=σ r:=by
  by_cases h:Bv wh k i≠0∨e=0
  · rw [aF h];refine ⟨_,tP (OX _ _ _ _ _) (Jy _ _ _ _),?_,fun r h1 h2=>?_⟩
    · rw [uG,uG,tX _ _ hi,hy]
    rw [tX _ _ h1,tX _ _ h2]
  rw [aD h];refine ⟨σ,U,?_,fun _ _ _=>rfl⟩;have hl:Bv wh k i=0:=dY fun x=>h (.inl x);have he:e≠0:=fun x=>h (.inr x);rw [←hy,hl,rU he,bS,kZ]
 unfold Cc;by_cases h:An wh k i=1
 · rw [aF h,aY];exact ⟨σ1,h1,by rw [h2,h,dP],h3⟩
 rw [aD h];refine ⟨_,tP h1 (AN i (An wh k i) σ1 hd ⟨y,h2⟩),?_,fun r g1 g2=>?_⟩
 · rw [uG,h2,pN _ hd]
 rw [tX _ _ g1];exact h3 r g1 g2
theorem Ui {n:Int} {wh:List R2} {k:Int} {e:Nat} (hk:k≠3*n) (y:Int→Int):∀ (left:List Int) (σ:Int→Int),left.Nodup→k ∉ left→(∀ i∈left,i≠3*n∧An wh k i≠0∧σ i - σ k*Bv wh k i ^ e=An wh k i*y i)→
 ∃ σ',vS (yU n wh k e left) σ=some σ'∧(∀ i∈left,σ' i=y i)∧∀ r,r ∉ left→r≠3*n→σ' r=σ r
 | [],σ,_,_,_=>⟨σ,U,fun i h=>(by cases h),fun _ _ _=>rfl⟩
 | i :: left,σ,hn,hkl,h=>by
   obtain ⟨hn1,hn2⟩:=qN.1 hn;obtain ⟨g1,g2,g3⟩:=h i bD;obtain ⟨σ1,a1,a2,a3⟩:=AO hk g1 g2 g3;have hki:k≠i:=fun e=>hkl (by rw [e];exact bD);obtain ⟨σ2,b1,b2,b3⟩:=Ui hk y left σ1 hn2 (fun x=>hkl (aW _ x)) (fun j hj=>by
    obtain ⟨k1,k2,k3⟩:=h j (aW _ hj);have hji:j≠i:=fun e=>hn1 (e▸hj);refine ⟨k1,k2,?_⟩;rw [a3 j hji k1,a3 k hki hk];exact k3)
   refine ⟨σ2,tP a1 b1,fun j hj=>?_,fun r hr hr2=>?_⟩
   · rcases iP.1 hj with rfl | hj
     · rw [b3 j hn1 g1,a2]
     exact b2 j hj
   rw [b3 r (fun x=>hr (aW _ x)) hr2,a3 r (fun x=>hr (by rw [x];exact bD)) hr2]
def Bj (n u v:Int) (th:List Bool) (j:Nat):List Bool×List Sl.Instr:=
 let low:=decide (0<j) && th[j - 1]?.getD false && decide (u≠0)
 let own:=th[j]?.getD false && decide (v≠0)
 (th.set j (own || low),
  (if low then sW (3*n) (2*n+(j - 1)) u else []) ++
  (if own && low then sW (2*n+j) (2*n+j) v++[⟨3,2*n+j,2*n+j,3*n,0⟩] else if own then sW (2*n+j) (2*n+j) v else if low then sW (2*n+j) (3*n) 1 else []))
def Uj (n u v:Int):Nat→List Bool→List Bool×List Sl.Instr
 | 0,th=>(th,[])
 | m+1,th=>((Uj n u v m (Bj n u v th m).1).1,(Bj n u v th m).2++(Uj n u v m (Bj n u v th m).1).2)
def Ib (n u v:Int):Nat→Nat→List Bool→List Bool×List Sl.Instr
 | 0,_,th=>(th,[])
 | m+1,d,th=>((Ib n u v m (d+1) (Uj n u v (d+1) th).1).1,(Uj n u v (d+1) th).2++(Ib n u v m (d+1) (Uj n u v (d+1) th).1).2)
def xZ (n u v:Int) (e:Nat):List Bool:=(Ib n u v e 1 ((List.replicate (e+1) false).set 0 true)).1
def zP (n u v k:Int) (e:Nat):List Sl.Instr:=sW (2*n) k 1++(Ib n u v e 1 ((List.replicate (e+1) false).set 0 true)).2
def KS (n:Int) (th:List Bool) (σ:Int→Int) (j:Nat) (x:Int):Prop:=(th[j]?.getD false=true→σ (2*n+j)=x)∧(th[j]?.getD false=false→x=0)
theorem Lq (n u v:Int) (th:List Bool) (j:Nat):(Bj n u v th j).1.length=th.length:=aG
theorem Nd (n u v:Int) (th:List Bool) {j i:Nat} (h:i≠j):(Bj n u v th j).1[i]?=th[i]?:=by
 show (th.set j _)[i]?=_;rw [cF,aD (fun e=>h e.symm)]
theorem JP {n u v:Int} {th:List Bool} {j:Nat} {σ:Int→Int} {x y:Int} (hj:j<th.length) (hn:(j:Int)<n) (hx:KS n th σ j x) (hy:0<j→KS n th σ (j - 1) y) (hy0:j=0→y=0) :
 ∃ σ',vS (Bj n u v th j).2 σ=some σ'∧KS n (Bj n u v th j).1 σ' j (v*x+u*y)∧∀ r,r≠2*n+j→r≠3*n→σ' r=σ r:=by
 have hne:(2*n+j:Int)≠3*n:=sN;have hset:∀ b:Bool,(th.set j b)[j]?.getD false=b:=fun b=>by rw [cF,aF rfl,aF hj];rfl
 have hown:(th[j]?.getD false && decide (v≠0))=false→v*x=0:=fun h=>by
  rcases qR.1 h with h | h
  · rw [hx.2 h,bS]
  rw [dY fun h2=>mU h h2,eN]
 have hown1:(th[j]?.getD false && decide (v≠0))=true→σ (2*n+j)=x:=fun h=>hx.1 (rE.1 h).1;have hlow:(decide (0<j) && th[j - 1]?.getD false && decide (u≠0))=false→u*y=0:=fun h=>by
  by_cases hj0:j=0
  · rw [hy0 hj0,bS]
  rcases qR.1 h with h | h
  · rcases qR.1 h with h | h
    · exact absurd sN (mU h)
    rw [(hy sN).2 h,bS]
  rw [dY fun h2=>mU h h2,eN]
 have hlow1:(decide (0<j) && th[j - 1]?.getD false && decide (u≠0))=true→σ (2*n+((j:Int) - 1))=y:=fun h=>by
  have h2:=(rE.1 h).1;have h3:=rE.1 h2;have hj1:0<j:=fM h3.1;have:=(hy hj1).1 h3.2;rw [show ((j:Int) - 1)=((j - 1:Nat):Int) by omega];exact this
 unfold Bj;simp only;generalize (decide (0<j) && th[j - 1]?.getD false && decide (u≠0))=low at *;generalize (th[j]?.getD false && decide (v≠0))=own at *;cases low <;> cases own
 · refine ⟨σ,U,⟨fun h=>?_,fun _=>?_⟩,fun _ _ _=>rfl⟩
   · rw [hset] at h;cases h
   rw [hown rfl,hlow rfl];rfl
 · refine ⟨_,uW _ _ _ _,⟨fun _=>?_,fun h=>?_⟩,fun r h1 h2=>tX _ _ h1⟩
   · rw [uG,hown1 rfl,hlow rfl,fI]
   rw [hset] at h;cases h
 · refine ⟨_,tP (m:=sW (2*n+j) (3*n) 1) (uW _ _ _ _) (uW _ _ _ _),⟨fun _=>?_,fun h=>?_⟩,fun r h1 h2=>?_⟩
   · rw [uG,uG,hlow1 rfl,hown rfl,kY,dP]
   · rw [hset] at h;cases h
   rw [tX _ _ h1,tX _ _ h2]
 have h9:=tP (uW (3*n) (2*n+(j - 1)) u σ) (tP (uW (2*n+j) (2*n+j) v _) (Od (2*n+j) (2*n+j) (3*n) _));refine ⟨_,h9,⟨fun _=>?_,fun h=>?_⟩,fun r h1 h2=>?_⟩
 · rw [uG,uG,tX _ _ hne,tX _ _ (lO hne),uG,hown1 rfl,hlow1 rfl]
 · rw [hset] at h;cases h
 rw [tX _ _ h1,tX _ _ h1,tX _ _ h2]
def OY (u v:Int) (C:Nat→Int) (j:Nat):Int:=v*C j+u*(if j=0 then 0 else C (j - 1))
theorem Uk {n:Int} {th th':List Bool} {σ σ':Int→Int} {j:Nat} {x:Int} (h:KS n th σ j x) (ht:th'[j]?=th[j]?) (hs:σ' (2*n+j)=σ (2*n+j)):KS n th' σ' j x:=by
 unfold KS at *;rw [ht,hs];exact h
theorem GL {n u v:Int} {C:Nat→Int}:∀ (m:Nat) (th:List Bool) (σ:Int→Int),m≤th.length→(m:Int)≤n→(∀ j,j<m→KS n th σ j (C j))→
 ∃ σ',vS (Uj n u v m th).2 σ=some σ'∧(Uj n u v m th).1.length=th.length∧(∀ j,j<m→KS n (Uj n u v m th).1 σ' j (OY u v C j))∧(∀ j,m≤j→(Uj n u v m th).1[j]?=th[j]?)∧(∀ r,(∀ j:Nat,j<m→r≠2*n+j)→r≠3*n→σ' r=σ r)
 | 0,th,σ,_,_,_=>⟨σ,U,U,fun j h=>sN,fun _ _=>rfl,fun _ _ _=>rfl⟩
 | m+1,th,σ,hl,hn,h=>by
   obtain ⟨σ1,a1,a2,a3⟩:=JP (u:=u) (v:=v) (y:=if m=0 then 0 else C (m - 1)) (show m<th.length by omega) sN (h m sN) (fun hm=>by rw [aD (by omega)];exact h (m - 1) sN) (fun hm=>aF hm);obtain ⟨σ2,b1,b2,b3,b4,b5⟩:=GL (u:=u) (v:=v) (C:=C) m (Bj n u v th m).1 σ1 (by rw [Lq];omega) sN (fun j hj=>Uk (h j sN) (Nd n u v th sN) (a3 _ sN sN));refine ⟨σ2,tP a1 b1,by rw [←Lq n u v th m];exact b2,fun j hj=>?_,fun j hj=>?_,fun r hr hr2=>?_⟩
   · rcases aK j m with hjm | hjm
     · exact b3 j hjm
     have e:j=m:=sN;subst e;exact Uk a2 (b4 j (aH _)) (b5 _ (fun i hi=>by omega) sN)
   · exact (b4 j sN).trans (Nd n u v th sN)
   rw [b5 r (fun j hj=>hr j sN) hr2,a3 r (hr m sN) hr2]
def fj (u v:Int):Nat→(Nat→Int)→Nat→Int
 | 0,C=>C
 | m+1,C=>fj u v m (OY u v C)
theorem AP {n u v:Int}:∀ (m d:Nat) (th:List Bool) (σ:Int→Int) (C:Nat→Int),d+m≤th.length→(th.length:Int)≤n→(∀ j,d≤j→C j=0)→(∀ j,j<th.length→KS n th σ j (C j))→(∀ j,d≤j→th[j]?.getD false=false)→
 ∃ σ',vS (Ib n u v m d th).2 σ=some σ'∧(Ib n u v m d th).1.length=th.length∧(∀ j,j<th.length→KS n (Ib n u v m d th).1 σ' j (fj u v m C j))∧(∀ r,(∀ j:Nat,j<th.length→r≠2*n+j)→r≠3*n→σ' r=σ r)
 | 0,d,th,σ,C,_,_,_,h,_=>⟨σ,U,U,h,fun _ _ _=>rfl⟩
 | m+1,d,th,σ,C,hl,hn,hC,h,hf=>by
   obtain ⟨σ1,a1,a2,a3,a4,a5⟩:=GL (u:=u) (v:=v) (C:=C) (d+1) th σ sN sN (fun j hj=>h j sN);have hC':∀ j,d+1≤j→OY u v C j=0:=fun j hj=>by
    unfold OY;rw [aD (by omega),hC j sN,hC (j - 1) sN,bS,bS];rfl
   have hf':∀ j,d+1≤j→(Uj n u v (d+1) th).1[j]?.getD false=false:=fun j hj=>by rw [a4 j hj];exact hf j sN
   obtain ⟨σ2,b1,b2,b3,b4⟩:=AP (u:=u) (v:=v) m (d+1) (Uj n u v (d+1) th).1 σ1 (OY u v C) (by rw [a2];omega) (by rw [a2];exact hn) hC' (fun j hj=>by
    rcases aK j (d+1) with hjd | hjd
    · exact a3 j hjd
    exact ⟨fun x=>(by rw [hf' j hjd] at x;cases x),fun _=>hC' j hjd⟩) hf'
   refine ⟨σ2,tP a1 b1,by rw [←a2];exact b2,fun j hj=>b3 j (by rw [a2];exact hj),fun r hr hr2=>?_⟩;rw [b4 r (fun j hj=>hr j (by rw [←a2];exact hj)) hr2,a5 r (fun j hj=>hr j sN) hr2]
def co (f:List Int) (j:Nat):Int:=f[j]?.getD 0
theorem Qi (p q:Int):∀ (f:List Int) (last:Int) (j:Nat),co (zU p q last f) j=p*co f j - q*(if j=0 then last else co f (j - 1))
 | [],last,0=>by show -(q*last)=p*0 - q*last;rw [bS];omega
 | [],last,j+1=>by show (0:Int)=p*0 - q*0;rw [bS,bS];rfl
 | c :: f,last,0=>rfl
 | c :: f,last,j+1=>by
   show co (zU p q c f) j=p*co f j - q*co (c :: f) j;rw [Qi p q f c j];cases j <;> rfl
theorem JQ (u v:Int) (e:Nat):co (wL u v (e+1))=OY u v (co (wL u v e)):=by
 funext j;show co (zU v (-u) 0 (wL u v e)) j=_;rw [Qi];unfold OY;rw [gN,Int.sub_neg]
theorem OZ (u v y:Int) (C:Nat→Int):OY u v (fun j=>y*C j)=fun j=>y*OY u v C j:=by
 funext j;unfold OY;rw [cU];split
 · rw [bS,bS];congr 1;ac_rfl
 congr 1 <;> ac_rfl
theorem GM (u v y:Int):∀ (m e:Nat),fj u v m (fun j=>y*co (wL u v e) j)=fun j=>y*co (wL u v (e+m)) j
 | 0,e=>rfl
 | m+1,e=>by
   show fj u v m (OY u v fun j=>y*co (wL u v e) j)=_;rw [OZ,←JQ,GM u v y m (e+1),show e+1+m=e+(m+1) by omega]
theorem Qj (n u v:Int):∀ (m:Nat) (th:List Bool),(Uj n u v m th).1.length=th.length
 | 0,_=>rfl
 | m+1,th=>by show (Uj n u v m _).1.length=_;rw [Qj,Lq]
theorem AQ (n u v:Int):∀ (m d:Nat) (th:List Bool),(Ib n u v m d th).1.length=th.length
 | 0,_,_=>rfl
 | m+1,d,th=>by show (Ib n u v m _ _).1.length=_;rw [AQ,Qj]
theorem zV (n u v:Int) (e:Nat):(xZ n u v e).length=e+1:=by unfold xZ;rw [AQ,aG,aJ]
theorem ED {n u v k:Int} {e:Nat} {σ:Int→Int} (he:(e:Int)<n) :
 ∃ σ',vS (zP n u v k e) σ=some σ'∧(∀ j,j≤e→KS n (xZ n u v e) σ' j (σ k*co (wL u v e) j))∧∀ r,r<2*n→σ' r=σ r:=by
 have hl:((List.replicate (e+1) false).set 0 true).length=e+1:=by rw [aG,aJ]
 have hget:∀ j:Nat,((List.replicate (e+1) false).set 0 true)[j]?.getD false=decide (j=0):=fun j=>by
  rw [cF];split
  · rename_i h;subst h;rw [aF (by rw [aJ];omega)];rfl
  rename_i h;rw [fS,cA (fun e=>h e.symm)];split <;> rfl
 have e0:∀ j:Nat,σ k*co (wL u v 0) j=if j=0 then σ k else 0:=fun j=>by
  cases j with
  | zero=>show σ k*1=_;rw [gT];rfl
  | succ j=>show σ k*0=_;rw [bS];rfl
 obtain ⟨σ',h1,h2,h3,h4⟩:=AP (n:=n) (u:=u) (v:=v) e 1 ((List.replicate (e+1) false).set 0 true) (upd σ (2*n) (1*σ k)) (fun j=>σ k*co (wL u v 0) j) (by rw [hl];omega) (by rw [hl];omega) (fun j hj=>by simp only [e0];exact aD (by omega))
  (fun j hj=>by
   unfold KS;rw [hget,e0];by_cases hj0:j=0
   · subst hj0;refine ⟨fun _=>?_,fun h=>(by cases h)⟩;show upd σ (2*n) (1*σ k) (2*n+((0:Nat):Int))=σ k;rw [show (2*n+((0:Nat):Int))=2*n by omega,uG,dP]
   rw [cA hj0,aD hj0];exact ⟨fun h=>(by cases h),fun _=>rfl⟩) (fun j hj=>by rw [hget];exact cA sN)
 refine ⟨σ',tP (uW _ _ _ _) h1,fun j hj=>?_,fun r hr=>?_⟩
 · have:=h3 j (by rw [hl];omega);rw [GM,cR] at this;exact this
 rw [h4 r (fun j _=>by omega) sN,tX _ _ sN]
def Ww (n:Int) (p:R2):Nat→List Sl.Instr
 | 0=>[]
 | j+1=>(if 0<j then sW (3*n) (n+((j:Int) - 1)) p.b else [])++(sW (n+j) (n+j) p.a++((if 0<j then [⟨4,n+j,n+j,3*n,0⟩] else [])++Ww n p j))
def Jz (n:Int) (p:R2) (e:Nat):List Sl.Instr:=sW (n+e) (n+((e:Int) - 1)) (-p.b)++Ww n p e
def Cl (n:Int):List Bool→Nat→List Sl.Instr
 | [],_=>[]
 | t :: ts,j=>(if t then [⟨3,n+j,n+j,2*n+j,0⟩] else [])++Cl n ts (j+1)
def xS (n:Int) (wh:List R2) (k:Int) (e:Nat):List Sl.Instr:=
 Jz n (uN wh k) e++(zP n (bezS (uN wh k).a (uN wh k).b) (bezT (uN wh k).a (uN wh k).b) k e++Cl n (xZ n (bezS (uN wh k).a (uN wh k).b) (bezT (uN wh k).a (uN wh k).b) e) 0)
theorem AR {n:Int} {p:R2} {c:Nat→Int}:∀ (m:Nat) (σ:Int→Int),(m:Int)≤n→(∀ j:Nat,j<m→σ (n+j)=c j)→
 ∃ σ',vS (Ww n p m) σ=some σ'∧(∀ j:Nat,j<m→σ' (n+j)=p.a*c j - p.b*(if j=0 then 0 else c (j - 1)))∧∀ r,(∀ j:Nat,j<m→r≠n+j)→r≠3*n→σ' r=σ r
 | 0,σ,_,_=>⟨σ,U,fun j h=>sN,fun _ _ _=>rfl⟩
 | m+1,σ,hm,h=>by
   obtain ⟨σ1,a1,a2,a3⟩:∃ σ1,vS ((if 0<m then sW (3*n) (n+((m:Int) - 1)) p.b else [])++(sW (n+m) (n+m) p.a++(if 0<m then [⟨4,n+m,n+m,3*n,0⟩] else []))) σ=some σ1∧σ1 (n+m)=p.a*c m - p.b*(if m=0 then 0 else c (m - 1))∧∀ r,r≠n+m→r≠3*n→σ1 r=σ r:=by
    by_cases hm0:0<m
    · rw [aF hm0,aF hm0,aD (by omega)];refine ⟨_,tP (uW _ _ _ _) (tP (uW _ _ _ _) (Jy _ _ _ _)),?_,fun r h1 h2=>?_⟩
      · have e1:σ (n+((m:Int) - 1))=c (m - 1):=by
         rw [show ((m:Int) - 1)=((m - 1:Nat):Int) by omega];exact h (m - 1) sN
        rw [uG,uG,tX _ _ sN,tX _ _ sN,uG,h m sN,e1]
      rw [tX _ _ h1,tX _ _ h1,tX _ _ h2]
    rw [aD hm0,aD hm0,aF (by omega),fV,aY];refine ⟨_,uW _ _ _ _,?_,fun r h1 h2=>tX _ _ h1⟩;rw [uG,h m sN,bS,kZ]
   obtain ⟨σ2,b1,b2,b3⟩:=AR (n:=n) (p:=p) (c:=c) m σ1 sN (fun j hj=>by rw [a3 _ sN sN];exact h j sN);refine ⟨σ2,?_,fun j hj=>?_,fun r hr hr2=>?_⟩
   · have:=tP a1 b1;rw [aR,aR] at this;exact this
   · rcases aK j m with hjm | hjm
     · exact b2 j hjm
     have e:j=m:=sN;subst e;rw [b3 _ (fun i hi=>by omega) sN];exact a2
   rw [b3 r (fun j hj=>hr j sN) hr2,a3 r (hr m sN) hr2]
theorem Qk {n:Int} (σ0:Int→Int):∀ (th:List Bool) (j0:Nat) (σ:Int→Int),((j0+th.length:Nat):Int)≤n→(∀ r,(∀ j:Nat,j<j0→r≠n+j)→σ r=σ0 r)→
 ∃ σ',vS (Cl n th j0) σ=some σ'∧(∀ j:Nat,j<th.length→σ' (n+(j0+j:Nat))=σ0 (n+(j0+j:Nat))+(if th[j]?.getD false=true then σ0 (2*n+(j0+j:Nat)) else 0))∧∀ r,(∀ j:Nat,j<th.length→r≠n+(j0+j:Nat))→σ' r=σ r
 | [],j0,σ,_,_=>⟨σ,U,fun j h=>(by simp at h),fun _ _=>rfl⟩
 | t :: th,j0,σ,hn,h0=>by
   rw [bA] at hn;obtain ⟨σ1,a1,a2,a3⟩:∃ σ1,vS (if t then [⟨3,n+j0,n+j0,2*n+j0,0⟩] else []) σ=some σ1∧σ1 (n+j0)=σ0 (n+j0)+(if t=true then σ0 (2*n+j0) else 0)∧∀ r,r≠n+j0→σ1 r=σ r:=by
    have e1:σ (n+j0)=σ0 (n+j0):=h0 _ (fun j hj=>by omega);have e2:σ (2*n+j0)=σ0 (2*n+j0):=h0 _ (fun j hj=>by omega);cases t
    · exact ⟨σ,U,by rw [e1];exact (fI _).symm,fun _ _=>rfl⟩
    refine ⟨_,Od _ _ _ _,?_,fun r hr=>tX _ _ hr⟩;rw [uG,e1,e2];rfl
   obtain ⟨σ2,b1,b2,b3⟩:=Qk (n:=n) σ0 th (j0+1) σ1 sN (fun r hr=>by
    rw [a3 r (hr j0 sN)];exact h0 r (fun j hj=>hr j sN))
   refine ⟨σ2,tP a1 b1,fun j hj=>?_,fun r hr=>?_⟩
   · rw [bA] at hj;cases j with
     | zero =>
       rw [b3 _ (fun j hj=>by omega)];exact a2
     | succ j =>
       have:=b2 j sN;rw [show j0+1+j=j0+(j+1) by omega] at this;exact this
   rw [b3 r (fun j hj=>by have:=hr (j+1) Ms;rw [show j0+1+j=j0+(j+1) by omega];exact this)];refine a3 r ?_;have:=hr 0 Ms;exact this
theorem PB {n:Int} {wh:List R2} {k:Int} {e:Nat} {σ:Int→Int} (f:List Int) (hf:f.length=e) (h1:1≤e) (he:(e:Int)<n) (hk:k<n) (hs:∀ j:Nat,j<e→σ (n+j)=co f j) :
 ∃ σ',vS (xS n wh k e) σ=some σ'∧(∀ j:Nat,j≤e→σ' (n+j)=co (zU (uN wh k).a (uN wh k).b 0 f) j+σ k*co (wL (bezS (uN wh k).a (uN wh k).b) (bezT (uN wh k).a (uN wh k).b) e) j)∧∀ r,r<n→σ' r=σ r:=by
 generalize hp:uN wh k=p;generalize hu:bezS p.a p.b=u;generalize hv:bezT p.a p.b=v;unfold xS;rw [hp,hu,hv];obtain ⟨σ1,a1,a2,a3⟩:=AR (n:=n) (p:=p) (c:=co f) e (upd σ (n+e) (-p.b*σ (n+((e:Int) - 1)))) sN (fun j hj=>by rw [tX _ _ sN];exact hs j hj);have hA:vS (Jz n p e) σ=some σ1:=tP (uW _ _ _ _) a1;have hB:∀ j:Nat,j≤e→σ1 (n+j)=co (zU p.a p.b 0 f) j:=fun j hj=>by
  rw [Qi];rcases aK j e with hje | hje
  · exact a2 j hje
  have e1:j=e:=sN;subst e1;rw [a3 _ (fun i hi=>by omega) sN,uG,aD (by omega)];have e2:co f j=0:=by unfold co;rw [bZ sN];rfl
  have e3:σ (n+((j:Int) - 1))=co f (j - 1):=by
   rw [show ((j:Int) - 1)=((j - 1:Nat):Int) by omega];exact hs (j - 1) sN
  rw [e2,e3,bS,gN];omega
 have hC:∀ r,r<n→σ1 r=σ r:=fun r hr=>by rw [a3 r (fun j hj=>by omega) sN,tX _ _ sN]
 obtain ⟨σ2,b1,b2,b3⟩:=ED (u:=u) (v:=v) (k:=k) (σ:=σ1) he;obtain ⟨σ3,c1,c2,c3⟩:=Qk (n:=n) σ2 (xZ n u v e) 0 σ2 (by rw [zV];omega) (fun _ _=>rfl);refine ⟨σ3,tP hA (tP b1 c1),fun j hj=>?_,fun r hr=>?_⟩
 · have h2:=c2 j (by rw [zV];omega);rw [cR] at h2;rw [h2,b3 _ sN,hB j hj];congr 1;obtain ⟨g1,g2⟩:=b2 j hj;rw [hC k hk] at g1 g2;cases ht:(xZ n u v e)[j]?.getD false with
   | true=>rw [aF rfl];exact g1 ht
   | false=>rw [aD (by decide)];exact (g2 ht).symm
 rw [c3 r (fun j hj=>by omega),b3 r sN,hC r hr]
def yV (n:Int) (wh:List R2):List Int→List Sl.Instr
 | []=>[]
 | k :: left=>yU n wh k left.length left++yV n wh left
def vK (n:Int) (wh:List R2):List Int→List Sl.Instr
 | []=>[]
 | [k]=>sW n k 1
 | k :: i :: left=>vK n wh (i :: left)++xS n wh k (i :: left).length
theorem UK {t:Int} {F G:List Int} (h:F.length=G.length) (j:Nat):co (Fa t F G) j=co F j - t*co G j:=by
 unfold co Fa;rw [List.getElem?_zipWith];rcases aK j F.length with hj | hj
 · rw [aA hj,aA (show j<G.length by omega)];rfl
 rw [bZ hj,bZ (show G.length≤j by omega)];show (0:Int)=0 - t*0;rw [bS];rfl
theorem Um {n:Int} {wh:List R2}:∀ (o:List Int) (f:List Int) (σ:Int→Int),o.Nodup→o≠[]→(∀ k∈o,0≤k∧k<n)→(o.length:Int)≤n→
 (∀ k∈o,Int.gcd (uN wh k).a (uN wh k).b=1∧bezS (uN wh k).a (uN wh k).b*(uN wh k).a+bezT (uN wh k).a (uN wh k).b*(uN wh k).b=1)→(∀ k∈o,∀ i∈o,k≠i→An wh k i≠0)→f.length=o.length→(∀ k∈o,σ k=ev f (uN wh k).a (uN wh k).b)→
 ∃ σ',vS (yV n wh o++vK n wh o) σ=some σ'∧(∀ j:Nat,j<f.length→σ' (n+j)=co f j)∧∀ r,r<n→r ∉ o→σ' r=σ r
 | [],f,σ,_,h,_,_,_,_,_,_=>absurd U h
 | [k],f,σ,_,_,ho,_,_,_,hf,hv=>by
   obtain ⟨c,rfl⟩:∃ c,f=[c]:=by
    match f,hf with
    | [c],_=>exact ⟨c,U⟩
   have hk:=ho k tU;refine ⟨_,(uW n k 1 σ:vS (sW n k 1) σ=_),fun j hj=>?_,fun r hr hr2=>tX _ _ sN⟩;have hj0:j=0:=by simpa using hj
   subst hj0;show upd σ n (1*σ k) (n+((0:Nat):Int))=c;rw [show n+((0:Nat):Int)=n by omega,uG,hv k tU,dP];show c*_ ^ 0+_*0=c;rw [lA,gT,bS,fI]
 | k :: i :: left,f,σ,hn,_,ho,hon,hg,hd,hf,hv=>by
   obtain ⟨hn1,hn2⟩:=qN.1 hn;obtain ⟨hk0,hkn⟩:=ho k bD;obtain ⟨hgk,hbk⟩:=hg k bD;generalize hrest:i :: left=rest at *;have hrl:1≤rest.length:=by rw [←hrest];simp
   rw [bA] at hf hon;obtain ⟨g,g1,g2,g3⟩:=JO hgk hbk f rest.length hf;have hvk:=hv k bD;obtain ⟨σ1,a1,a2,a3⟩:=Ui (n:=n) (wh:=wh) (k:=k) (e:=rest.length) sN (fun i=>ev g (uN wh i).a (uN wh i).b) rest σ hn2 hn1 (fun i hi=>by
    have:=ho i (aW _ hi);refine ⟨by omega,hd k bD i (aW _ hi) (fun e=>hn1 (e▸hi)),?_⟩;rw [hvk,hv i (aW _ hi)];have e2:=g3 (uN wh i).a (uN wh i).b;have e3:An wh k i=(uN wh k).a*(uN wh i).b - (uN wh k).b*(uN wh i).a:=by unfold An;rw [cG (uN wh i).a]
    rw [e3];exact e2)
   obtain ⟨σ2,b1,b2,b3⟩:=Um rest g σ1 hn2 (by intro e;rw [e] at hrl;simp at hrl) (fun k hk=>ho k (aW _ hk)) sN (fun k hk=>hg k (aW _ hk)) (fun k hk i hi=>hd k (aW _ hk) i (aW _ hi)) g1 (fun i hi=>a2 i hi);have hk2:σ2 k=σ k:=by rw [b3 k hkn hn1,a3 k hn1 sN]
   obtain ⟨σ3,c1,c2,c3⟩:=PB (wh:=wh) (σ:=σ2) g g1 hrl sN hkn (fun j hj=>b2 j sN);refine ⟨σ3,?_,fun j hj=>?_,fun r hr hr2=>?_⟩
   · have e1:yV n wh (k :: rest)++vK n wh (k :: rest)=yU n wh k rest.length rest++((yV n wh rest++vK n wh rest)++xS n wh k rest.length):=by
      have e2:vK n wh (k :: rest)=vK n wh rest++xS n wh k rest.length:=by rw [←hrest];rfl
      rw [e2];show (yU n wh k rest.length rest++yV n wh rest)++_=_;simp only [aR]
     rw [e1];exact tP a1 (tP b1 c1)
   · rw [c2 j sN,←g2,hk2,hvk,UK (by rw [hf,Dn])];omega
   rw [c3 r hr,b3 r hr (fun x=>hr2 (aW _ x)),a3 r (fun x=>hr2 (aW _ x)) sN]
def Bk (o:List Int) (n:Nat):Prop:=o.length=n∧(∀ x∈o,0≤x∧x<n)∧o.Nodup
instance (o:List Int) (n:Nat):Decidable (Bk o n):=inferInstanceAs (Decidable (_∧_))
theorem Lr {q:PV} (h:1≤q.ins∧q.ins≤q.regs∧q.regs≤128∧q.code.length≤16384∧1≤q.outs.length∧q.outs.length≤128) (ho:∀ r∈q.outs,0≤r∧r<q.regs) (hc:∀ i∈q.code,tB i q.regs=true):sP q=true:=by
 have h1:xC q=true:=by
  unfold xC;rw [aU,aT,eK];exact ⟨by omega,fun r hr=>by rw [aT];exact ho r hr⟩
 have h2:Ct q=none:=by
  unfold Ct;rw [gO];intro i hi;rw [hc i hi];rfl
 unfold sP uK;rw [aD (by rw [h1];decide),h2];rfl
structure Good (R:Int) (L d:Nat) (l:List Sl.Instr):Prop where
 fit:∀ i∈l,tB i R=true
 len:l.length≤L
 dv:Wu l≤d
theorem AS (l m:List Sl.Instr):Wu (l++m)=Wu l+Wu m:=by unfold Wu;rw [List.filter_append,aB]
theorem Good.nil (R:Int):Good R 0 0 []:=⟨fun i h=>(by cases h),aH _,aH _⟩
abbrev iC:=@Good.nil
theorem Good.append {R:Int} {L d L' d':Nat} {l m:List Sl.Instr} (h:Good R L d l) (k:Good R L' d' m):Good R (L+L') (d+d') (l++m):=
 ⟨fun i hi=>(iA.1 hi).elim (h.fit i) (k.fit i),by rw [aB];have:=h.len;have:=k.len;omega,by rw [AS];have:=h.dv;have:=k.dv;omega⟩
theorem Good.mono {R:Int} {L d L' d':Nat} {l:List Sl.Instr} (h:Good R L d l) (h1:L≤L') (h2:d≤d'):Good R L' d' l:=⟨h.fit,bO h.len h1,bO h.dv h2⟩
theorem Good.one {R:Int} {i:Sl.Instr} (h:tB i R=true):Good R 1 (if AL i then 1 else 0) [i]:=
 ⟨fun j hj=>by rw [eT.1 hj];exact h,aH _,by unfold Wu;by_cases hd:AL i <;> simp [hd]⟩
abbrev pD:=@Good.one
theorem GN {op to a b R:Int} (ho:op=3∨op=4) (h1:0≤to∧to<R) (h2:0≤a∧a<R) (h3:0≤b∧b<R):tB ⟨op,to,a,b,0⟩ R=true:=by
 unfold tB;rw [aU,aU,aT,eK];refine ⟨⟨(show 1≤op∧op≤8∧0≤to∧to<R∧(op=3∨op=4∨b=0) by omega),?_⟩,fun r hr=>?_⟩
 · unfold tD;rw [aD (show ¬(op=5∨op=6) by omega),aD (show ¬(op=7∨op=8) by omega)];rfl
 rw [aT];unfold tC at hr;rw [aF (show op=3∨op=4 from ho)] at hr;rcases iP.1 hr with rfl | hr
 · exact h2
 rw [eT.1 hr];exact h3
theorem Fu {op to a R:Int} (ho:op=1∨op=2) (h1:0≤to∧to<R) (h2:0≤a∧a<R):tB ⟨op,to,a,0,0⟩ R=true:=by
 unfold tB;rw [aU,aU,aT,eK];refine ⟨⟨(show 1≤op∧op≤8∧0≤to∧to<R∧(op=3∨op=4∨(0:Int)=0) by omega),?_⟩,fun r hr=>?_⟩
 · unfold tD;rw [aD (show ¬(op=5∨op=6) by omega),aD (show ¬(op=7∨op=8) by omega)];rfl
 rw [aT];unfold tC at hr;rw [aD (show ¬(op=3∨op=4) by omega),aF (show 1≤op∧op≤8 by omega)] at hr;rw [eT.1 hr];exact h2
theorem Ls {op to a c R:Int} (ho:op=5∨op=6) (h1:0≤to∧to<R) (h2:0≤a∧a<R) (hc:c≠0∧-512≤c∧c≤512):tB ⟨op,to,a,0,c⟩ R=true:=by
 unfold tB;rw [aU,aU,aT,eK];refine ⟨⟨(show 1≤op∧op≤8∧0≤to∧to<R∧(op=3∨op=4∨(0:Int)=0) by omega),?_⟩,fun r hr=>?_⟩
 · unfold tD;rw [aF (show op=5∨op=6 from ho),aT];exact hc
 rw [aT];unfold tC at hr;rw [aD (show ¬(op=3∨op=4) by omega),aF (show 1≤op∧op≤8 by omega)] at hr;rw [eT.1 hr];exact h2
theorem Ka {R to a b:Int} (h1:0≤to∧to<R) (h2:0≤a∧a<R) (h3:0≤b∧b<R):Good R 1 0 [⟨3,to,a,b,0⟩]:=(pD (GN (.inl U) h1 h2 h3)).mono (aH _) (nG (aD (show ¬((3:Int)=6∨(3:Int)=8) by decide)))
theorem Fe {R to a b:Int} (h1:0≤to∧to<R) (h2:0≤a∧a<R) (h3:0≤b∧b<R):Good R 1 0 [⟨4,to,a,b,0⟩]:=(pD (GN (.inr U) h1 h2 h3)).mono (aH _) (nG (aD (show ¬((4:Int)=6∨(4:Int)=8) by decide)))
theorem uY {R to x c:Int} (h1:0≤to∧to<R) (h2:0≤x∧x<R) (hc:-512≤c∧c≤512):Good R 1 0 (sW to x c):=by
 unfold sW;split
 · exact Fe h1 h2 h2
 rename_i h0;split
 · exact (iC R).mono sN sN
 split
 · exact (pD (Fu (.inl U) h1 h2)).mono (aH _) (nG (aD (show ¬((1:Int)=6∨(1:Int)=8) by decide)))
 split
 · exact (pD (Fu (.inr U) h1 h2)).mono (aH _) (nG (aD (show ¬((2:Int)=6∨(2:Int)=8) by decide)))
 exact (pD (Ls (.inl U) h1 h2 ⟨h0,hc⟩)).mono (aH _) (nG (aD (show ¬((5:Int)=6∨(5:Int)=8) by decide)))
theorem Un {R to c:Int} (h1:0≤to∧to<R) (h0:c≠0) (hc:-512≤c∧c≤512):Good R 1 (if c=1 then 0 else 1) (xR to c):=by
 unfold xR;split
 · exact (iC R).mono sN sN
 split
 · exact (pD (Fu (.inr U) h1 h1)).mono (aH _) Td
 exact (pD (Ls (.inr U) h1 h1 ⟨h0,hc⟩)).mono (aH _) Td
theorem Uo {R to c:Int} (h1:0≤to∧to<R) (h0:c≠0) (hc:-512≤c∧c≤512):∀ m:Nat,Good R m (if c=1 then 0 else m) (List.replicate m (xR to c)).flatten
 | 0=>(iC R).mono (aH _) (aM _)
 | m+1=>by
   rw [oO,rT];refine ((Un h1 h0 hc).append (Uo h1 h0 hc m)).mono sN ?_;split <;> omega
theorem Lt {R to c:Int} (h1:0≤to∧to<R) (hc:-512≤c∧c≤512):∀ (e:Nat) (fr k:Int),0≤fr∧fr<R→-512≤k∧k≤512→Good R (e+1) 0 (Qg to c fr k e)
 | 0,fr,k,h2,hk=>uY h1 h2 hk
 | e+1,fr,k,h2,hk=>by
   unfold Qg;split
   · exact ((uY h1 h2 hk).append (Lt h1 hc e to c h1 hc)).mono sN sN
   exact (Lt h1 hc e fr (k*c) h2 sN).mono sN sN
theorem JR {R to a c:Int} (h1:0≤to∧to<R) (h2:0≤a∧a<R) (hc:-512≤c∧c≤512) (e:Nat):Good R (e+1) 0 (Am to a c e):=by
 unfold Am;split
 · refine (uY h1 h2 ?_).mono sN sN;split <;> omega
 exact Lt h1 hc e a 1 h2 sN
theorem GO {u v a b:Int} (h:u.natAbs+v.natAbs≤17) (hn:near a b):-512≤u*a+v*b∧u*a+v*b≤512:=by
 unfold near at hn;have h1:(u*a).natAbs≤u.natAbs*16:=by rw [fZ];exact oN _ sN
 have h2:(v*b).natAbs≤v.natAbs*16:=by rw [fZ];exact oN _ sN
 omega
theorem UL {a b c d:Int} (h:near a b) (k:near c d):-512≤a*d - c*b∧a*d - c*b≤512:=by
 unfold near at h k;have h1:(a*d).natAbs≤16*16:=by rw [fZ];exact gQ sN sN
 have h2:(c*b).natAbs≤16*16:=by rw [fZ];exact gQ sN sN
 omega
structure Wh (wh:List R2) (o:List Int):Prop where
 near:∀ k∈o,near (uN wh k).a (uN wh k).b
 cop:∀ k∈o,Int.gcd (uN wh k).a (uN wh k).b=1
 bez:∀ k∈o,bezS (uN wh k).a (uN wh k).b*(uN wh k).a+bezT (uN wh k).a (uN wh k).b*(uN wh k).b=1
 small:∀ k∈o,(bezS (uN wh k).a (uN wh k).b).natAbs+(bezT (uN wh k).a (uN wh k).b).natAbs≤17
 det:∀ k∈o,∀ i∈o,k≠i→An wh k i≠0
theorem Wh.tail {wh:List R2} {k:Int} {o:List Int} (h:Wh wh (k :: o)):Wh wh o:=
 ⟨fun i hi=>h.near i (aW _ hi),fun i hi=>h.cop i (aW _ hi),fun i hi=>h.bez i (aW _ hi),fun i hi=>h.small i (aW _ hi),
  fun k hk i hi=>h.det k (aW _ hk) i (aW _ hi)⟩
theorem Wx {n:Int} {wh:List R2} {k i:Int} (e:Nat) (hk:0≤k∧k<n) (hi:0≤i∧i<n) (h1:near (uN wh k).a (uN wh k).b) (h2:near (uN wh i).a (uN wh i).b) (h3:(bezS (uN wh k).a (uN wh k).b).natAbs+(bezT (uN wh k).a (uN wh k).b).natAbs≤17) (h4:An wh k i≠0) :
 Good (3*n+1) (e+3) 1 (Cc n wh k e i):=by
 have hl:=GO h3 h2;have hd:=UL h1 h2;unfold Cc;have e1:Good (3*n+1) (e+2) 0 (if Bv wh k i≠0∨e=0 then Am (3*n) k (Bv wh k i) e++[⟨4,i,i,3*n,0⟩] else []):=by
  split
  · exact (JR sN sN hl e).append (Fe sN sN sN)
  exact (iC _).mono sN sN
 have e2:Good (3*n+1) 1 1 (if An wh k i=1 then [] else xR i (An wh k i)):=by
  split
  · exact (iC _).mono sN sN
  exact (Un sN h4 hd).mono (aH _) Td
 exact (e1.append e2).mono sN sN
theorem Ql {n:Int} {wh:List R2} {k:Int} (e:Nat) (hk:0≤k∧k<n) (h1:near (uN wh k).a (uN wh k).b) (h3:(bezS (uN wh k).a (uN wh k).b).natAbs+(bezT (uN wh k).a (uN wh k).b).natAbs≤17) :
 ∀ left:List Int,(∀ i∈left,0≤i∧i<n)→(∀ i∈left,near (uN wh i).a (uN wh i).b∧An wh k i≠0)→Good (3*n+1) (left.length*(e+3)) left.length (yU n wh k e left)
 | [],_,_=>(iC _).mono (aM _) (aM _)
 | i :: left,hi,h=>by
   have h5:=h i bD;refine ((Wx e hk (hi i bD) h1 h5.1 h3 h5.2).append (Ql e hk h1 h3 left (fun j hj=>hi j (aW _ hj)) (fun j hj=>h j (aW _ hj)))).mono ?_ ?_
   · rw [bA,rR];omega
   rw [bA];omega
def kf:Nat→Nat
 | 0=>0
 | m+1=>m+kf m
theorem Do {n:Int} {wh:List R2}:∀ o:List Int,o.length≤15→(∀ i∈o,0≤i∧i<n)→o.Nodup→Wh wh o→Good (3*n+1) (238*o.length) (kf o.length) (yV n wh o)
 | [],_,_,_,_=>(iC _).mono (aM _) (aM _)
 | k :: left,hl,hr,hn,hw=>by
   obtain ⟨hn1,hn2⟩:=qN.1 hn;rw [bA] at hl;have h1:=Ql (n:=n) (wh:=wh) left.length (hr k bD) (hw.near k bD) (hw.small k bD) left (fun i hi=>hr i (aW _ hi)) (fun i hi=>⟨hw.near i (aW _ hi),hw.det k bD i (aW _ hi) (fun e=>hn1 (e▸hi))⟩);have h2:=Do left sN (fun i hi=>hr i (aW _ hi)) hn2 hw.tail;refine (h1.append h2).mono ?_ ?_
   · rw [bA];have:left.length*(left.length+3)≤14*17:=gQ sN sN;omega
   exact aH _
theorem EE {n u v:Int} {th:List Bool} {j:Nat} (hj:(j:Int)<n) (hu:-512≤u∧u≤512) (hv:-512≤v∧v≤512):Good (3*n+1) 3 0 (Bj n u v th j).2:=by
 unfold Bj;simp only;by_cases hj0:0<j
 · have h1:Good (3*n+1) 1 0 (sW (3*n) (2*n+(j - 1)) u):=uY sN sN hu;have h2:Good (3*n+1) 1 0 (sW (2*n+j) (2*n+j) v):=uY sN sN hv;have h3:Good (3*n+1) 1 0 (sW (2*n+j) (3*n) 1):=uY sN sN sN;have h4:Good (3*n+1) 1 0 [(⟨3,2*n+j,2*n+j,3*n,0⟩:Sl.Instr)]:=Ka sN sN sN;generalize (decide (0<j) && th[j - 1]?.getD false && decide (u≠0))=low;generalize (th[j]?.getD false && decide (v≠0))=own;cases low <;> cases own
   · exact (iC _).mono sN sN
   · exact h2.mono sN sN
   · exact (h1.append h3).mono sN sN
   exact (h1.append (h2.append h4)).mono sN sN
 have h2:Good (3*n+1) 1 0 (sW (2*n+j) (2*n+j) v):=uY sN sN hv;rw [cA hj0];generalize (th[j]?.getD false && decide (v≠0))=own;cases own
 · exact (iC _).mono sN sN
 exact h2.mono sN sN
theorem AT {n u v:Int} (hu:-512≤u∧u≤512) (hv:-512≤v∧v≤512):∀ (m:Nat) (th:List Bool),(m:Int)≤n→Good (3*n+1) (3*m) 0 (Uj n u v m th).2
 | 0,_,_=>iC _
 | m+1,th,h=>((EE sN hu hv).append (AT hu hv m _ sN)).mono sN sN
theorem Up {n u v:Int} (hu:-512≤u∧u≤512) (hv:-512≤v∧v≤512) (hn:n≤15):∀ (m d:Nat) (th:List Bool),((d+m:Nat):Int)≤n→Good (3*n+1) (45*m) 0 (Ib n u v m d th).2
 | 0,_,_,_=>iC _
 | m+1,d,th,h=>((AT hu hv (d+1) th sN).append (Up hu hv hn m (d+1) _ sN)).mono sN sN
theorem AU {n u v k:Int} {e:Nat} (hu:-512≤u∧u≤512) (hv:-512≤v∧v≤512) (hn:n≤15) (he:(e:Int)<n) (hk:0≤k∧k<n):Good (3*n+1) (1+45*e) 0 (zP n u v k e):=
 (uY sN sN sN).append (Up hu hv hn e 1 _ sN)
theorem Uq {n:Int} {p:R2} (hp:near p.a p.b):∀ m:Nat,(m:Int)≤n→Good (3*n+1) (3*m) 0 (Ww n p m)
 | 0,_=>iC _
 | j+1,h=>by
   unfold near at hp;unfold Ww;have h1:Good (3*n+1) 1 0 (if 0<j then sW (3*n) (n+((j:Int) - 1)) p.b else []):=by
    split
    · exact uY sN sN sN
    exact (iC _).mono sN sN
   have h2:Good (3*n+1) 1 0 (sW (n+j) (n+j) p.a):=uY sN sN sN;have h3:Good (3*n+1) 1 0 (if 0<j then [(⟨4,n+j,n+j,3*n,0⟩:Sl.Instr)] else []):=by
    split
    · exact Fe sN sN sN
    exact (iC _).mono sN sN
   exact (h1.append (h2.append (h3.append (Uq hp j sN)))).mono sN sN
theorem Nf {n:Int}:∀ (th:List Bool) (j:Nat),((j+th.length:Nat):Int)≤n→Good (3*n+1) th.length 0 (Cl n th j)
 | [],_,_=>iC _
 | t :: th,j,h=>by
   rw [bA] at h;have h1:Good (3*n+1) 1 0 (if t then [(⟨3,n+j,n+j,2*n+j,0⟩:Sl.Instr)] else []):=by
    split
    · exact Ka sN sN sN
    exact (iC _).mono sN sN
   exact (h1.append (Nf th (j+1) sN)).mono Ms sN
theorem JS {n:Int} {wh:List R2} {k:Int} {e:Nat} (hn:n≤15) (h1:1≤e) (he:(e:Int)<n) (hk:0≤k∧k<n) (hp:near (uN wh k).a (uN wh k).b) (hs:(bezS (uN wh k).a (uN wh k).b).natAbs+(bezT (uN wh k).a (uN wh k).b).natAbs≤17):Good (3*n+1) 700 0 (xS n wh k e):=by
 have a1:=uY (R:=3*n+1) (to:=n+e) (x:=n+((e:Int) - 1)) (c:=-(uN wh k).b) sN sN Yc;have a2:=Uq (n:=n) hp e sN;have a3:=AU (n:=n) (u:=bezS (uN wh k).a (uN wh k).b) (v:=bezT (uN wh k).a (uN wh k).b) (k:=k) (e:=e) sN sN hn he hk;have a4:=Nf (n:=n) (xZ n (bezS (uN wh k).a (uN wh k).b) (bezT (uN wh k).a (uN wh k).b) e) 0 (by rw [zV];omega);have hl:=zV n (bezS (uN wh k).a (uN wh k).b) (bezT (uN wh k).a (uN wh k).b) e;exact ((a1.append a2).append (a3.append a4)).mono (by rw [hl];omega) sN
theorem Dp {n:Int} {wh:List R2} (hn:n≤15):∀ o:List Int,(o.length:Int)≤n→(∀ i∈o,0≤i∧i<n)→Wh wh o→Good (3*n+1) (700*o.length) 0 (vK n wh o)
 | [],_,_,_=>iC _
 | [k],_,hr,_=>by
   have:=hr k bD;exact (uY sN sN sN).mono tU (aH _)
 | k :: i :: left,hl,hr,hw=>by
   rw [bA] at hl;have h1:=Dp hn (i :: left) sN (fun j hj=>hr j (aW _ hj)) hw.tail;have h2:=JS (n:=n) (wh:=wh) (k:=k) (e:=(i :: left).length) hn tU sN (hr k bD) (hw.near k bD) (hw.small k bD);exact (h1.append h2).mono (by rw [bA (a:=k)];omega) sN
def Ao (m:Nat):List R2→Nat→List Sl.Instr
 | [],_=>[]
 | p :: l,k=>(List.replicate m (xR k (Int.gcd p.a p.b))).flatten++Ao m l (k+1)
def tL (p:R2):R2:=⟨p.a.tdiv (Int.gcd p.a p.b),p.b.tdiv (Int.gcd p.a p.b)⟩
def Kb (l:List R2) (o:List Int):List Sl.Instr:=Ao (l.length - 1) l 0++(yV l.length (l.map tL) o++vK l.length (l.map tL) o)
def madeP (l:List R2) (o:List Int):PV:=⟨l.length,3*l.length+1,Kb l o,(List.range l.length).map fun j:Nat=>(l.length:Int)+j⟩
theorem Ff {p:R2} (h:Nz p):1≤Int.gcd p.a p.b∧Int.gcd p.a p.b≤16:=by
 obtain ⟨h1,h2⟩:=h;have hg0:0<Int.gcd p.a p.b:=Nat.pos_of_ne_zero fun h1=>h2 (Int.gcd_eq_zero_iff.mp h1);refine ⟨hg0,?_⟩;unfold near at h1;by_cases ha:p.a=0
 · have hb:p.b≠0:=fun hb=>h2 ⟨ha,hb⟩;have:=rK sN (show Int.gcd p.a p.b ∣ p.b.natAbs from Nat.gcd_dvd_right _ _);omega
 have:=rK sN (show Int.gcd p.a p.b ∣ p.a.natAbs from Nat.gcd_dvd_left _ _);omega
theorem Dq {n:Int} (m:Nat):∀ (l:List R2) (k:Nat),((k+l.length:Nat):Int)≤n→(∀ p∈l,Nz p)→Good (3*n+1) (l.length*m) (m*Lp l) (Ao m l k)
 | [],_,_,_=>(iC _).mono (aM _) (aM _)
 | p :: l,k,h,hp=>by
   rw [bA] at h;have hg:=Ff (hp p bD);have h1:=Uo (R:=3*n+1) (to:=(k:Int)) (c:=(Int.gcd p.a p.b:Int)) sN sN sN m;have h2:=Dq (n:=n) m l (k+1) sN (fun q hq=>hp q (aW _ hq));refine (h1.append h2).mono ?_ ?_
   · rw [bA,rR];omega
   have e:Lp (p :: l)=(if Int.gcd p.a p.b=1 then 0 else 1)+Lp l:=by
    unfold Lp;rw [List.filter_cons];by_cases hh:Int.gcd p.a p.b=1
    · rw [aD (by simp [hh]),aF hh,cR]
    rw [aF (by simp [hh]),aD hh,bA,Nat.add_comm]
   rw [e,Nat.mul_add];by_cases hh:Int.gcd p.a p.b=1
   · rw [aF (by omega),aF hh];omega
   rw [aD (by omega),aD hh];omega
theorem GP (l:List R2) {k:Int} (h0:0≤k) (h:k<l.length):uN (l.map tL) k=tL (l[k.toNat]?.getD default):=by
 unfold uN;rw [bM,aA (show k.toNat<l.length by omega)];rfl
theorem xG {p:R2} (h:Nz p):p.a=Int.gcd p.a p.b*(tL p).a∧p.b=Int.gcd p.a p.b*(tL p).b∧Int.gcd (tL p).a (tL p).b=1∧Nz (tL p):=by
 obtain ⟨g1,g2⟩:=Ff h;have e1:p.a.tdiv (Int.gcd p.a p.b)*Int.gcd p.a p.b=p.a:=kK (sL p.a p.b);have e2:p.b.tdiv (Int.gcd p.a p.b)*Int.gcd p.a p.b=p.b:=kK (rX p.a p.b);have q1:=xE p.a (Int.gcd p.a p.b);have q2:=xE p.b (Int.gcd p.a p.b);refine ⟨by rw [cG];exact e1.symm,by rw [cG];exact e2.symm,?_,?_,?_⟩
 · show Nat.gcd (p.a.tdiv (Int.gcd p.a p.b)).natAbs (p.b.tdiv (Int.gcd p.a p.b)).natAbs=1;rw [show (p.a.tdiv (Int.gcd p.a p.b)).natAbs=p.a.natAbs / Int.gcd p.a p.b from mS _ _,show (p.b.tdiv (Int.gcd p.a p.b)).natAbs=p.b.natAbs / Int.gcd p.a p.b from mS _ _];exact Nat.coprime_div_gcd_div_gcd g1
 · have h1:=h.1;unfold near at *;show _≤p.a.tdiv _∧p.a.tdiv _≤_∧_≤p.b.tdiv _∧p.b.tdiv _≤_;omega
 intro ⟨z1,z2⟩;apply h.2;have z1:p.a.tdiv (Int.gcd p.a p.b)=0:=z1;have z2:p.b.tdiv (Int.gcd p.a p.b)=0:=z2;rw [z1,eN] at e1;rw [z2,eN] at e2;exact ⟨e1.symm,e2.symm⟩
theorem PC {l:List R2} (hR:tW l) {i j:Nat} (hij:i<j) (hj:j<l.length):(l[i]?.getD default).a*(l[j]?.getD default).b - (l[j]?.getD default).a*(l[i]?.getD default).b≠0:=by
 obtain ⟨h1,h2,h3,h4⟩:=hR;intro h;apply h4;obtain ⟨p1,p2⟩:=h3 i sN;obtain ⟨q1,q2⟩:=h3 j hj;refine ⟨j,hj,i,hij,p1,q1,(NU _ _ _ _).2 ?_⟩;unfold TH;rw [aD (fun h=>h.elim p2 q2)];exact h
theorem Qm {l:List R2} (hR:tW l) {o:List Int} (ho:∀ k∈o,0≤k∧k<l.length):Wh (l.map tL) o:=by
 have hok:∀ k∈o,Nz (l[k.toNat]?.getD default):=fun k hk=>hR.2.2.1 _ (by have:=ho k hk;omega);have hpt:∀ k∈o,uN (l.map tL) k=tL (l[k.toNat]?.getD default):=fun k hk=>GP l (ho k hk).1 (ho k hk).2;have hb:∀ k∈o,bezS (uN (l.map tL) k).a (uN (l.map tL) k).b*(uN (l.map tL) k).a+bezT (uN (l.map tL) k).a (uN (l.map tL) k).b*(uN (l.map tL) k).b=1∧(bezS (uN (l.map tL) k).a (uN (l.map tL) k).b).natAbs+(bezT (uN (l.map tL) k).a (uN (l.map tL) k).b).natAbs≤17:=fun k hk=>by
  rw [hpt k hk];obtain ⟨_,_,w3,w4⟩:=xG (hok k hk);obtain ⟨b1,b2,_⟩:=Ft w4.1 w4.2;rw [w3] at b1;exact ⟨b1,b2⟩
 refine ⟨fun k hk=>by rw [hpt k hk];exact (xG (hok k hk)).2.2.2.1,fun k hk=>by rw [hpt k hk];exact (xG (hok k hk)).2.2.1,fun k hk=>(hb k hk).1,fun k hk=>(hb k hk).2,fun k hk i hi hne=>?_⟩;have hd:((l[k.toNat]?.getD default).a*(l[i.toNat]?.getD default).b - (l[i.toNat]?.getD default).a*(l[k.toNat]?.getD default).b)≠0:=by
  have h1:=ho k hk;have h2:=ho i hi;rcases aK k.toNat i.toNat with h | h
  · exact PC hR h sN
  have:=PC hR (show i.toNat<k.toNat by omega) sN;intro h3;apply this;omega
 intro h0;apply hd;unfold An at h0;rw [hpt k hk,hpt i hi] at h0;obtain ⟨a1,a2,_⟩:=xG (hok k hk);obtain ⟨c1,c2,_⟩:=xG (hok i hi);generalize (l[k.toNat]?.getD default)=p at *;generalize (l[i.toNat]?.getD default)=q at *;have key:p.a*q.b - q.a*p.b=((tL p).a*(tL q).b - (tL q).a*(tL p).b)*((Int.gcd p.a p.b:Int)*(Int.gcd q.a q.b:Int)):=by
  rw [kR];calc p.a*q.b - q.a*p.b=(Int.gcd p.a p.b*(tL p).a)*(Int.gcd q.a q.b*(tL q).b) - (Int.gcd q.a q.b*(tL q).a)*(Int.gcd p.a p.b*(tL p).b):=by rw [←a1,←a2,←c1,←c2]
   _=_:=by congr 1 <;> ac_rfl
 rw [key,h0,eN]
theorem Lu {l:List R2} {o:List Int} (hR:tW l) (ho:Bk o l.length):Good (3*l.length+1) 16384 (kf l.length+(l.length - 1)*Lp l) (Kb l o):=by
 obtain ⟨o1,o2,o3⟩:=ho;have hl:=hR.2.1;have hw:=Qm hR o2;have hok:∀ p∈l,Nz p:=fun p hp=>by
  obtain ⟨i,hi,rfl⟩:=fY.1 hp;have:=hR.2.2.1 i hi;rw [aA hi] at this;exact this
 have h1:=Dq (n:=l.length) (l.length - 1) l 0 sN hok;have h2:=Do (n:=l.length) (wh:=l.map tL) o sN o2 o3 hw;have h3:=Dp (n:=l.length) (wh:=l.map tL) sN o sN o2 hw;refine (h1.append (h2.append h3)).mono ?_ ?_
 · have:l.length*(l.length - 1)≤15*14:=gQ sN sN;omega
 rw [o1];omega
theorem Ic {l:List R2} {o:List Int} (hR:tW l) (ho:Bk o l.length):sP (madeP l o)=true:=by
 have hg:=Lu hR ho;have hl:=hR.1;have hl2:=hR.2.1;refine Lr ⟨?_,?_,?_,hg.len,?_,?_⟩ ?_ hg.fit
 · show (1:Int)≤l.length;omega
 · show (l.length:Int)≤3*l.length+1;omega
 · show (3*l.length+1:Int)≤128;omega
 · show 1≤((List.range l.length).map _).length;rw [aN,cC];exact hl
 · show ((List.range l.length).map _).length≤128;rw [aN,cC];omega
 intro r hr;obtain ⟨j,hj,rfl⟩:=dL.1 hr;have:=iG.1 hj;show 0≤(l.length:Int)+j∧(l.length:Int)+j<3*l.length+1;omega
def CP:List Sl.Instr→List Int→Option (List Int)
 | [],rs=>some rs
 | i :: l,rs=>(Af i rs).bind fun x=>CP l (rs.set i.to.toNat x)
theorem PD (l:List Sl.Instr) (i:Sl.Instr) (rs:List Int):CP (l++[i]) rs=(CP l rs).bind fun r=>(Af i r).map fun x=>r.set i.to.toNat x:=by
 induction l generalizing rs with
 | nil =>
   show (Af i rs).bind (fun x=>some (rs.set i.to.toNat x))=(Af i rs).map _;cases Af i rs <;> rfl
 | cons j l ih =>
   show (Af j rs).bind (fun x=>CP (l++[i]) (rs.set j.to.toNat x))=((Af j rs).bind fun x=>CP l (rs.set j.to.toNat x)).bind _;cases Af j rs with
   | none=>rfl
   | some x=>exact ih _
theorem Dr (p:PV) (zs:List Int):∀ k,k≤p.code.length→Wo p zs k=CP (p.code.take k) zs
 | 0,_=>by rw [bR];rfl
 | k+1,hk=>by
   have htk:p.code.take (k+1)=p.code.take k++[p.code[(k:Int).toNat]?.getD default]:=by
    rw [cL,aE,aA sN];rfl
   rw [htk,PD,←Dr p zs k sN];rfl
def Cn (j:Nat) (rs:List (List Int)):List Int:=rs.map fun r=>r[j]?.getD 0
def Flat (N:Nat) (rs:List (List Int)):Prop:=∀ r∈rs,r.length=N
theorem yW (j:Nat) (rs:List (List Int)):(Cn j rs).length=rs.length:=by unfold Cn;rw [aN]
theorem Fg {j k:Nat} {rs:List (List Int)}:(Cn j rs)[k]?.getD 0=(rs[k]?.getD [])[j]?.getD 0:=by
 unfold Cn;rw [bM];cases rs[k]? <;> rfl
theorem Oe (j k:Nat) (rs:List (List Int)) (x:List Int):Cn j (rs.set k x)=(Cn j rs).set k (x[j]?.getD 0):=by
 unfold Cn;rw [List.map_set]
theorem Cd {N k:Nat} {rs:List (List Int)} (h:Flat N rs) (hk:k<rs.length):(rs[k]?.getD []).length=N:=by
 rw [aA hk];exact h _ (bT hk)
theorem Qn {l:List Int} {f:Int→Int} {j:Nat} (h:j<l.length):(l.map f)[j]?.getD 0=f (l[j]?.getD 0):=by
 rw [bM,aA h];rfl
theorem AV {l m:List Int} {f:Int→Int→Int} {j:Nat} (h:j<l.length) (h2:j<m.length):(List.zipWith f l m)[j]?.getD 0=f (l[j]?.getD 0) (m[j]?.getD 0):=by
 rw [List.getElem?_zipWith,aA h,aA h2];rfl
theorem GQ {i:Sl.Instr} {rs:List (List Int)} {N:Nat} (he:Flat N rs) (ha:i.a.toNat<rs.length) (hb:i.op=3∨i.op=4→i.b.toNat<rs.length) :
 (∀ x,xQ i rs=some x→x.length=N∧∀ j,j<N→Af i (Cn j rs)=some (x[j]?.getD 0))∧(xQ i rs=none→∃ j,j<N∧Af i (Cn j rs)=none):=by
 have la:=Cd he ha;unfold xQ Af;simp only [Fg];by_cases h2:i.op=2
 · simp only [aF h2];refine ⟨fun x h=>?_,fun h=>by cases h⟩;cases h;refine ⟨by rw [aN];exact la,fun j hj=>?_⟩;rw [Qn sN,gN,dP]
 simp only [aD h2];by_cases h3:i.op=3
 · have lb:=Cd he (hb (.inl h3));simp only [aF h3];refine ⟨fun x h=>?_,fun h=>by cases h⟩;cases h;refine ⟨by rw [iU];omega,fun j hj=>?_⟩;rw [AV sN sN,dP]
 simp only [aD h3];by_cases h4:i.op=4
 · have lb:=Cd he (hb (.inr h4));simp only [aF h4];refine ⟨fun x h=>?_,fun h=>by cases h⟩;cases h;refine ⟨by rw [iU];omega,fun j hj=>?_⟩;rw [AV sN sN,gN,dP];rfl
 simp only [aD h4];by_cases h5:i.op=5∨i.op=7
 · simp only [aF h5];refine ⟨fun x h=>?_,fun h=>by cases h⟩;cases h;refine ⟨by rw [aN];exact la,fun j hj=>?_⟩;rw [Qn sN,cG]
 simp only [aD h5];by_cases h6:i.op=6∨i.op=8
 · simp only [aF h6];by_cases hd:zG (cst i) (rs[i.a.toNat]?.getD [])
   · rw [aF hd];refine ⟨fun x h=>?_,fun h=>by cases h⟩;cases h;refine ⟨by rw [aN];exact la,fun j hj=>?_⟩;rw [aF (hd j sN),Qn sN]
   rw [aD hd];refine ⟨fun x h=>(by cases h),fun _=>?_⟩;unfold zG at hd;rw [Classical.not_forall] at hd;obtain ⟨j,hd⟩:=hd;rw [Classical.not_imp] at hd;exact ⟨j,by omega,aD hd.2⟩
 simp only [aD h6];refine ⟨fun x h=>?_,fun h=>by cases h⟩;cases h;exact ⟨la,fun j hj=>rfl⟩
theorem flat_set {N k:Nat} {rs:List (List Int)} {x:List Int} (h:Flat N rs) (hx:x.length=N):Flat N (rs.set k x):=fun r hr=>by
 rcases fC hr with h1 | h1
 · exact h r h1
 rw [h1];exact hx
def EF (n:Nat) (i:Sl.Instr):Prop:=i.a.toNat<n∧(i.op=3∨i.op=4→i.b.toNat<n)
theorem AW {N:Nat}:∀ (l:List Sl.Instr) (rs:List (List Int)),Flat N rs→(∀ i∈l,EF rs.length i)→
 (∀ r',yS l rs=some r'→Flat N r'∧r'.length=rs.length∧∀ j,j<N→CP l (Cn j rs)=some (Cn j r'))∧(yS l rs=none→∃ j,j<N∧CP l (Cn j rs)=none)
 | [],rs,he,_=>⟨fun r' h=>by cases h;exact ⟨he,U,fun j _=>rfl⟩,fun h=>by cases h⟩
 | i :: l,rs,he,hi=>by
   obtain ⟨h1,h2⟩:=GQ he (hi i tU).1 (hi i tU).2;unfold yS CP;cases hd:xQ i rs with
   | none =>
     refine ⟨fun r' h=>(by cases h),fun _=>?_⟩;obtain ⟨j,hj,hz⟩:=h2 hd;exact ⟨j,hj,by rw [hz];rfl⟩
   | some x =>
     obtain ⟨hx,hc⟩:=h1 x hd;obtain ⟨g1,g2⟩:=AW l (rs.set i.to.toNat x) (flat_set he hx) (fun q hq=>by rw [aG];exact hi q (by simp [hq]));refine ⟨fun r' h=>?_,fun h=>?_⟩
     · obtain ⟨k1,k2,k3⟩:=g1 r' h;refine ⟨k1,by rw [k2,aG],fun j hj=>?_⟩;rw [hc j hj];show CP l ((Cn j rs).set i.to.toNat (x[j]?.getD 0))=_;rw [←Oe];exact k3 j hj
     obtain ⟨j,hj,hz⟩:=g2 h;refine ⟨j,hj,?_⟩;rw [hc j hj];show CP l ((Cn j rs).set i.to.toNat (x[j]?.getD 0))=_;rw [←Oe];exact hz
theorem EG {i:Sl.Instr} {regs:Int} {n:Nat} (h:tB i regs=true) (hn:(n:Int)=regs):EF n i:=by
 obtain ⟨m1,m2,m3,m4,m5⟩:=tK h;exact ⟨by omega,fun h34=>by have:=m4 h34;omega⟩
theorem Lv {p:PV} {gs:List (List Int)} {N:Nat} (hN:Flat N gs) (h1:1≤gs.length):Flat N (vE p gs):=fun r hr=>by
 unfold vE at hr;obtain ⟨k,_,rfl⟩:=dL.1 hr;split
 · rename_i hk;exact Cd hN hk
 rw [aJ];exact Cd hN h1
theorem Kc {p:PV} {gs:List (List Int)} (hz:gs.length≤p.regs.toNat) (j:Nat):Cn j (vE p gs)=vR p (Cn j gs):=by
 apply gW;intro k;have hl:(vR p (Cn j gs)).length=p.regs.toNat:=by unfold vR;rw [aB,aJ,yW];omega
 have hl2:(Cn j (vE p gs)).length=p.regs.toNat:=by rw [yW,vN]
 rcases aK k p.regs.toNat with hk | hk
 · have e:∀ (l:List Int),k<l.length→l[k]?=some (l[k]?.getD 0):=fun l h=>by rw [aA h];rfl
   rw [e _ sN,e (vR p (Cn j gs)) sN];congr 1;rw [Fg,Ew hk];unfold vR;split
   · rename_i h;rw [bF (by rw [yW];exact h),Fg]
   rename_i h;rw [cB (by rw [yW];omega),yW];have e0:∀ (n m:Nat),(List.replicate n (0:Int))[m]?.getD 0=0:=fun n m=>by
    rw [fS];split <;> rfl
   rw [e0,e0]
 rw [bZ sN,bZ sN]
theorem Fh {p:PV} {gs os:List (List Int)} {N:Nat} (hR:sP p=true) (hg:(gs.length:Int)=p.ins) (hN:Flat N gs) (ho:os.length=p.outs.length) (hf:Flat N os)
 (h:∀ j,j<N→Dz p (Cn j gs)=some (Cn j os)):tE p gs=some os:=by
 obtain ⟨f1,f2,f3,f4,f5,f6,f7,f8⟩:=sT hR;have hfp:=Lv (p:=p) hN sN;unfold tE;rw [zH p gs _ (aH _),aZ];have hq:=AW p.code (vE p gs) hfp (fun i hi=>EG (f8 i hi) (by rw [vN];omega));have h9:∀ j,j<N→(CP p.code (Cn j (vE p gs))).map (yT p)=some (Cn j os):=fun j hj=>by
  have h1:=h j hj;unfold Dz at h1;rw [Dr p _ _ (aH _),aZ,←Kc sN] at h1;exact h1
 cases hr:yS p.code (vE p gs) with
 | none =>
   obtain ⟨j,hj,hz⟩:=hq.2 hr;have h1:=h9 j hj;rw [hz] at h1;cases h1
 | some s =>
   obtain ⟨q1,q2,q3⟩:=hq.1 s hr;show some (xD p s)=some os;congr 1;unfold xD;apply fL
   · rw [aN,ho]
   intro k g1 g2;rw [aN] at g1;rw [fA];have hrk:=f7 p.outs[k] (bT g1);have ls:=Cd q1 (k:=p.outs[k].toNat) (by rw [q2,vN];omega);have lo:=hf _ (bT g2);apply fL
   · omega
   intro j j1 j2;have h1:=h9 j sN;rw [q3 j sN] at h1;have h2:yT p (Cn j s)=Cn j os:=iW h1;have h3:=congrArg (fun l:List Int=>l[k]?.getD 0) h2;simp only [Fg] at h3;unfold yT at h3;rw [bM,aA g1,aA g2] at h3;simp only [fU,dZ,Fg] at h3;rw [aA j1,aA j2] at h3;exact h3
def Ag (R:Int) (σ:Int→Int) (rs:List Int):Prop:=∀ r,0≤r→r<R→σ r=rs[r.toNat]?.getD 0
theorem UM {i:Sl.Instr} {R:Int} {σ:Int→Int} {rs:List Int} (hm:tB i R=true) (h:Ag R σ rs):OW i σ=Af i rs:=by
 obtain ⟨m1,m2,m3,m4,m5⟩:=tK hm;unfold OW Af;simp only [h i.a m3.1 m3.2];by_cases h34:i.op=3∨i.op=4
 · have:=m4 h34;rw [h i.b this.1 this.2]
 have h3:¬i.op=3:=fun e=>h34 (.inl e);have h4:¬i.op=4:=fun e=>h34 (.inr e);simp only [h3,h4,lD]
theorem YO {R:Int} {σ:Int→Int} {rs:List Int} {t x:Int} (h:Ag R σ rs) (hl:(rs.length:Int)=R) (ht:0≤t∧t<R):Ag R (upd σ t x) (rs.set t.toNat x):=fun r h0 h1=>by
 rw [cF];by_cases hr:r=t
 · subst hr;rw [uG,aF rfl,aF (by omega)];rfl
 rw [tX _ _ hr,aD (by omega)];exact h r h0 h1
theorem Qo {R:Int}:∀ (l:List Sl.Instr) (σ σ':Int→Int) (rs:List Int),(∀ i∈l,tB i R=true)→(rs.length:Int)=R→Ag R σ rs→vS l σ=some σ'→∃ rs',CP l rs=some rs'∧(rs'.length:Int)=R∧Ag R σ' rs'
 | [],σ,σ',rs,_,hl,h,he=>by cases he;exact ⟨rs,U,hl,h⟩
 | i :: l,σ,σ',rs,hm,hl,h,he=>by
   have hmi:=hm i bD;obtain ⟨m1,m2,m3⟩:=tK hmi;obtain ⟨x,hx,he2⟩:=pV.1 (show (OW i σ).bind (fun x=>vS l (upd σ i.to x))=some σ' from he);obtain ⟨rs',g1,g2,g3⟩:=Qo l (upd σ i.to x) σ' (rs.set i.to.toNat x) (fun j hj=>hm j (aW _ hj)) (by rw [aG];exact hl) (YO h hl m2) he2;refine ⟨rs',?_,g2,g3⟩;show (Af i rs).bind (fun x=>CP l (rs.set i.to.toNat x))=some rs';rw [←UM hmi h,hx];exact g1
theorem Ng (m:Nat) (v:Nat→Int):∀ (l:List R2) (k:Nat) (σ:Int→Int),(∀ p∈l,Int.gcd p.a p.b≠0)→(∀ i,i<l.length→σ ((k+i:Nat):Int)=(Int.gcd (l[i]?.getD default).a (l[i]?.getD default).b:Int) ^ m*v (k+i))→
 ∃ σ',vS (Ao m l k) σ=some σ'∧(∀ i,i<l.length→σ' ((k+i:Nat):Int)=v (k+i))∧∀ r:Int,r<k→σ' r=σ r
 | [],k,σ,_,_=>⟨σ,U,fun i h=>by simp at h,fun _ _=>rfl⟩
 | p :: l,k,σ,hg,h=>by
   have h0:=h 0 tU;obtain ⟨σ',a1,a2,a3⟩:=Ng m v l (k+1) (upd σ (k:Int) (v k)) (fun q hq=>hg q (aW _ hq)) (fun i hi=>by
    have:=h (i+1) Ms;rw [tX _ _ sN,show k+1+i=k+(i+1) by omega];exact this)
   refine ⟨σ',tP (Uh (k:Int) (Int.gcd p.a p.b:Int) (by have:=hg p bD;omega) m σ (v k) h0) a1,fun i hi=>?_,fun r hr=>?_⟩
   · cases i with
     | zero =>
       show σ' ((k+0:Nat):Int)=v (k+0);rw [iS,a3 _ sN,uG]
     | succ i =>
       rw [bA] at hi;have:=a2 i sN;rw [show k+1+i=k+(i+1) by omega] at this;exact this
   rw [a3 r sN,tX _ _ sN]
theorem PE {l:List R2} {o:List Int} {f:List Int} (hR:tW l) (ho:Bk o l.length) (hf:f.length=l.length):Dz (madeP l o) (l.map fun p=>ev f p.a p.b)=some f:=by
 have hg:=Lu hR ho;have hw:=Qm hR ho.2.1;have hl:=hR.1;have hok:∀ i,i<l.length→Nz (l[i]?.getD default):=hR.2.2.1;have hokm:∀ p∈l,Nz p:=fun p hp=>by
  obtain ⟨i,hi,rfl⟩:=fY.1 hp;have:=hok i hi;rw [aA hi] at this;exact this
 generalize hrs:vR (madeP l o) (l.map fun p=>ev f p.a p.b)=rs;have hzl:(l.map fun p=>ev f p.a p.b).length=l.length:=aN _;have hregs:(madeP l o).regs=3*l.length+1:=rfl;have hrl:(rs.length:Int)=3*l.length+1:=by
  rw [←hrs];unfold vR;rw [aB,aJ,hzl,hregs];omega
 have hr0:∀ i,i<l.length→rs[i]?.getD 0=ev f (l[i]?.getD default).a (l[i]?.getD default).b:=fun i hi=>by
  rw [←hrs];unfold vR;rw [bF (by rw [hzl];exact hi),bM,aA hi];rfl
 obtain ⟨c,f',hcf⟩:∃ c f',f=c :: f':=by
  cases f with
  | nil=>rw [cE] at hf;omega
  | cons c f'=>exact ⟨c,f',U⟩
 have hfl:f'.length=l.length - 1:=by rw [hcf,bA] at hf;omega
 obtain ⟨σ1,a1,a2,a3⟩:=Ng (l.length - 1) (fun i=>ev f (uN (l.map tL) (i:Int)).a (uN (l.map tL) (i:Int)).b) l 0 (fun r=>rs[r.toNat]?.getD 0) (fun p hp=>by have:=Ff (hokm p hp);omega) (fun i hi=>by
  simp only [cR];rw [aE,hr0 i hi,GP l sN sN,aE];obtain ⟨w1,w2,_⟩:=xG (hok i hi);have hgp:=Ff (hok i hi);generalize (l[i]?.getD default)=p at *;have:=UG (g:=(Int.gcd p.a p.b:Int)) (tL p).a (tL p).b c f' sN;rw [←w1,←w2,hfl,←hcf] at this;exact this)
 have hv:∀ k∈o,σ1 k=ev f (uN (l.map tL) k).a (uN (l.map tL) k).b:=fun k hk=>by
  have h1:=ho.2.1 k hk;have:=a2 k.toNat sN;simp only [cR] at this;rw [show ((k.toNat:Nat):Int)=k by omega] at this;exact this
 have hol:=ho.1;obtain ⟨σ2,b1,b2,b3⟩:=Um (n:=l.length) (wh:=l.map tL) o f σ1 ho.2.2 (by intro e;rw [e,cE] at hol;omega) ho.2.1 sN (fun k hk=>⟨hw.cop k hk,hw.bez k hk⟩) hw.det sN hv;obtain ⟨rs',c1,c2,c3⟩:=Qo (Kb l o) (fun r=>rs[r.toNat]?.getD 0) σ2 rs hg.fit hrl (fun r _ _=>rfl) (tP a1 b1);unfold Dz;rw [Dr _ _ _ (aH _),aZ,hrs];show (CP (Kb l o) rs).map (yT (madeP l o))=some f;rw [c1];show some (yT (madeP l o) rs')=some f;congr 1;unfold yT madeP;simp only;apply fL
 · rw [aN,aN,cC,hf]
 intro j g1 g2;rw [fA,fA,kW,←c3 _ sN sN,b2 j g2];unfold co;rw [aA g2];rfl
theorem AX {n j:Nat} (h:j<n) (a b:Int):ev (uH n j) a b=a ^ j*b ^ (n - 1 - j):=GK a b n j h
theorem Nh {l:List R2} {o:List Int} (hR:tW l) (ho:Bk o l.length):uE (madeP l o) l:=by
 have hpo:(madeP l o).outs.length=l.length:=by show ((List.range l.length).map _).length=_;rw [aN,cC]
 refine ⟨Ic hR ho,U,hpo,?_⟩;have hul:∀ j,(uH l.length j).length=l.length:=fun j=>by unfold uH;rw [aG,aJ]
 refine Fh (N:=l.length) (Ic hR ho) (by rw [Dl];rfl) (fun r hr=>?_) (by rw [aN,cC,hpo]) (fun r hr=>?_) fun j hj=>?_
 · unfold xF at hr;obtain ⟨p,hp,rfl⟩:=dL.1 hr;unfold yC;rw [aN,cC]
 · obtain ⟨i,hi,rfl⟩:=dL.1 hr;exact hul i
 have e1:Cn j (xF l)=l.map fun p=>ev (uH l.length j) p.a p.b:=by
  unfold Cn xF;rw [oU];apply jF;intro p hp;show (yC p.a p.b l.length)[j]?.getD 0=_;rw [AX hj];unfold yC;rw [bM,eV hj];rfl
 have e2:Cn j ((List.range l.length).map (uH l.length))=uH l.length j:=by
  apply fL
  · rw [yW,aN,cC,hul]
  intro i g1 g2;rw [yW,aN,cC] at g1;have e3:∀ (a b:Nat),b<l.length→(uH l.length a)[b]?.getD 0=if a=b then 1 else 0:=fun a b hb=>by
   unfold uH;rw [cF,fS];by_cases hab:a=b
   · rw [aF hab,aF hab,aF (by rw [aJ];omega)];rfl
   rw [aD hab,aD hab,aF hb];rfl
  have e4:=e3 i j hj;have e5:=e3 j i g1;rw [aA g2] at e5;have e6:(Cn j ((List.range l.length).map (uH l.length)))[i]?.getD 0=(uH l.length i)[j]?.getD 0:=by
   rw [Fg,bM,eV g1];rfl
  rw [aA (by rw [yW,aN,cC];exact g1)] at e6;simp only [dZ] at e5 e6;rw [e6,e4,e5];by_cases hij:i=j
  · rw [aF hij,aF hij.symm]
  rw [aD hij,aD (fun h=>hij h.symm)]
 rw [e1,e2];exact PE hR ho (hul j)
theorem Bl {k1 k2:Int} {l:List R2} {x y z:PV} (h:(tS k1 k2 l x y z).2=0):tF k1 k2 l=0∧sP x=true∧uV x k1 l∧sP y=true∧uV y k2 l∧sP z=true∧uE z l:=by
 unfold tS at h;by_cases h1:tF k1 k2 l=0
 · rw [aD (fun g=>g h1)] at h;by_cases h2:sP x=true
   · rw [aD (fun g=>g h2)] at h;by_cases h3:uV x k1 l
     · rw [aD (fun g=>g h3)] at h;by_cases h4:sP y=true
       · rw [aD (fun g=>g h4)] at h;by_cases h5:uV y k2 l
         · rw [aD (fun g=>g h5)] at h;by_cases h6:sP z=true
           · rw [aD (fun g=>g h6)] at h;by_cases h7:uE z l
             · exact ⟨h1,h2,h3,h4,h5,h6,h7⟩
             rw [aF h7] at h;cases h
           rw [aF h6] at h;cases h
         rw [aF h5] at h;cases h
       rw [aF h4] at h;cases h
     rw [aF h3] at h;cases h
   rw [aF h2] at h;cases h
 rw [aF h1] at h;exact absurd h h1
def Ks (to a c:Int):List Sl.Instr:=
 if c=1 then (if to=a then [] else [⟨1,to,a,0,0⟩]) else if c=-1 then [⟨2,to,a,0,0⟩] else if wE c=0 then [⟨5,to,a,0,c⟩] else [⟨7,to,a,0,wE c⟩]
def Kd (to c:Int):Int→Nat→List Sl.Instr
 | _,0=>[]
 | a,n+1=>Ks to a c++Kd to c to n
def GR (to tm b j:Int) (n:Nat):List Sl.Instr:=
 if b=1∨(b=-1∧n % 2=0) then [⟨3,to,to,j,0⟩] else if b=-1 then [⟨4,to,to,j,0⟩] else Kd tm b j n++[⟨3,to,to,tm,0⟩]
def KT (k:Nat) (to tm a b:Int):Int→Nat→List Sl.Instr
 | _,0=>[]
 | fr,m+1=>Ks to fr a++(GR to tm b m (k - 1 - m)++KT k to tm a b to m)
def Bw (k n i:Nat) (q:R2):List Sl.Instr:=
 if k=1 then [] else if q.a=0∧q.b=0 then [⟨4,(k:Int)+i,0,0,0⟩] else if q.a=0 then Kd ((k:Int)+i) q.b 0 (k - 1)
 else if q.b=0 then Kd ((k:Int)+i) q.a ((k:Int) - 1) (k - 1) else KT k ((k:Int)+i) ((k:Int)+n) q.a q.b ((k:Int) - 1) (k - 1)
def AY (k n:Nat):Nat→List R2→List Sl.Instr
 | _,[]=>[]
 | i,q :: l=>Bw k n i q++AY k n (i+1) l
def JT (k i:Nat):Int:=if k=1 then 0 else (k:Int)+i
def evP (k:Nat) (l:List R2):PV:=⟨k,(k:Int)+l.length+1,AY k l.length 0 l,(List.range l.length).map (JT k)⟩
theorem AZ (k n:Nat) (q:R2):∀ (l:List R2) (i:Nat),AY k n i (l++[q])=AY k n i l++Bw k n (i+l.length) q
 | [],i=>by show Bw k n i q++[]=[]++_;rw [aY];rfl
 | p :: l,i=>by
   show Bw k n i p++AY k n (i+1) (l++[q])=(Bw k n i p++AY k n (i+1) l)++_;rw [AZ k n q l (i+1),aR,bA,show i+1+l.length=i+(l.length+1) by omega]
theorem UN {to a c:Int} (h:wE c≠0):cst ⟨7,to,a,0,wE c⟩=c:=by
 rcases Cr h with rfl | rfl | rfl | rfl | rfl | rfl | rfl | rfl | rfl <;> rfl
theorem Wy (to a c:Int) (σ:Int→Int):vS (Ks to a c) σ=some (upd σ to (c*σ a)):=by
 unfold Ks;by_cases h1:c=1
 · rw [aF h1,h1,dP];by_cases h2:to=a
   · rw [aF h2,h2,Jx];rfl
   rw [aD h2];rfl
 rw [aD h1];by_cases h3:c=-1
 · rw [aF h3,h3,gN,dP];rfl
 rw [aD h3];by_cases h4:wE c=0
 · rw [aF h4];exact (Cx (x:=σ a*c) U).trans (by rw [cG])
 rw [aD h4];refine (Cx (x:=σ a*c) ?_).trans (by rw [cG]);show some (σ a*cst _)=_;rw [UN h4]
theorem Of (to c:Int):∀ (n:Nat) (a:Int) (σ:Int→Int),vS (Kd to c a (n+1)) σ=some (upd σ to (c ^ (n+1)*σ a))
 | 0,a,σ=>by
   show vS (Ks to a c++[]) σ=_;rw [aY,Wy,gP,lA,dP]
 | n+1,a,σ=>by
   refine tP (Wy to a c σ) ((Of to c n to _).trans ?_);rw [Wv,uG,gP c (n+1),cM]
theorem UO {to tm b j:Int} {n:Nat} (σ:Int→Int) (h1:tm≠to) (h2:j≠to) (hn:1≤n) :
 ∃ σ',vS (GR to tm b j n) σ=some σ'∧σ' to=σ to+b ^ n*σ j∧∀ r,r≠to→r≠tm→σ' r=σ r:=by
 unfold GR;by_cases c1:b=1∨(b=-1∧n % 2=0)
 · rw [aF c1];refine ⟨_,Od _ _ _ _,?_,fun r hr _=>tX _ _ hr⟩;rw [uG];have:b ^ n=1:=by
    rcases c1 with rfl | ⟨rfl,h⟩
    · exact Int.one_pow
    rw [Fc,aF h]
   rw [this,dP]
 rw [aD c1];by_cases c2:b=-1
 · rw [aF c2];refine ⟨_,Jy _ _ _ _,?_,fun r hr _=>tX _ _ hr⟩;rw [uG,c2,Fc,aD (fun h=>c1 (.inr ⟨c2,h⟩)),gN,dP];rfl
 rw [aD c2];obtain ⟨m,rfl⟩:∃ m,n=m+1:=⟨n - 1,by omega⟩
 refine ⟨_,tP (Of tm b m j σ) (Od _ _ _ _),?_,fun r hr h=>?_⟩
 · rw [uG,uG,tX _ _ (lO h1)]
 rw [tX _ _ hr,tX _ _ h]
theorem GS {z:List Int} {m:Nat} (h:m<z.length) (a b:Int):ev (z.drop m) a b=z[m]?.getD 0*b ^ (z.length - 1 - m)+a*ev (z.drop (m+1)) a b:=by
 rw [dM h,aA h];show z[m]*b ^ (z.drop (m+1)).length+_=_;rw [gK,show z.length - (m+1)=z.length - 1 - m by omega];rfl
theorem GU {k:Nat} {to tm a b:Int} {z:List Int} (hz:z.length=k) (h1:tm≠to) (ht:(k:Int)≤to) (htm:(k:Int)≤tm):∀ (m:Nat) (fr:Int) (σ:Int→Int),m+1≤k→(m=0→fr=to)→
 (∀ j:Nat,j<k→σ j=z[j]?.getD 0)→σ fr=ev (z.drop m) a b→∃ σ',vS (KT k to tm a b fr m) σ=some σ'∧σ' to=ev z a b∧∀ r,r≠to→r≠tm→σ' r=σ r
 | 0,fr,σ,_,hf,_,hs=>⟨σ,U,by rw [←hf rfl,hs];rfl,fun _ _ _=>rfl⟩
 | m+1,fr,σ,hm,_,hr,hs=>by
   obtain ⟨σ2,e1,e2,e3⟩:=UO (to:=to) (tm:=tm) (b:=b) (j:=(m:Int)) (n:=k - 1 - m) (upd σ to (a*σ fr)) h1 sN sN;rw [uG,tX _ _ sN,hr m sN] at e2;obtain ⟨σ3,f1,f2,f3⟩:=GU hz h1 ht htm m to σ2 sN (fun _=>rfl) (fun j hj=>by rw [e3 _ sN sN,tX _ _ sN];exact hr j hj) (by
    rw [e2,hs,GS (z:=z) (m:=m) sN a b,hz,cG (b ^ (k - 1 - m)),rZ])
   refine ⟨σ3,tP (Wy to fr a σ) (tP e1 f1),f2,fun r g1 g2=>?_⟩;rw [f3 r g1 g2,e3 r g1 g2,tX _ _ g1]
theorem BA (a:Int):∀ z:List Int,1≤z.length→ev z a 0=a ^ (z.length - 1)*z[z.length - 1]?.getD 0
 | [],h=>absurd h tU
 | [c],_=>by simp [ev]
 | c :: d :: f,_=>by
   have ih:=BA a (d :: f) tU;show c*0 ^ (d :: f).length+a*ev (d :: f) a 0=_;rw [ih];simp only [bA,jM];rw [rU sN,bS,kY,iL,gP a f.length,cG (a ^ f.length) a,cM]
theorem GV (b:Int) {z:List Int} (h:1≤z.length):ev z 0 b=b ^ (z.length - 1)*z[0]?.getD 0:=by
 cases z with
 | nil=>simp at h
 | cons c f =>
   show c*b ^ f.length+0*_=_;rw [eN,fI,cG];rfl
theorem PG {k n i:Nat} {q:R2} {z:List Int} (hz:z.length=k) (h1:1≤k) (hi:i<n) (σ:Int→Int) (hr:∀ j:Nat,j<k→σ j=z[j]?.getD 0) :
 ∃ σ',vS (Bw k n i q) σ=some σ'∧(k≠1→σ' ((k:Int)+i)=ev z q.a q.b)∧∀ r,r≠(k:Int)+i→r≠(k:Int)+n→σ' r=σ r:=by
 unfold Bw;by_cases hk:k=1
 · rw [aF hk];exact ⟨σ,U,fun h=>absurd hk h,fun _ _ _=>rfl⟩
 rw [aD hk];by_cases c1:q.a=0∧q.b=0
 · rw [aF c1];refine ⟨_,Jy _ _ _ _,fun _=>?_,fun r hr _=>tX _ _ hr⟩;rw [uG,rV,c1.1,c1.2,GV 0 sN,rU sN,eN]
 rw [aD c1];obtain ⟨m,hm⟩:∃ m,k - 1=m+1:=⟨k - 2,by omega⟩
 by_cases c2:q.a=0
 · rw [aF c2,hm];refine ⟨_,Of _ _ m _ σ,fun _=>?_,fun r hr _=>tX _ _ hr⟩;have:=hr 0 sN;rw [uG,c2,GV _ sN,hz,hm,←this];rfl
 rw [aD c2];by_cases c3:q.b=0
 · rw [aF c3,hm];refine ⟨_,Of _ _ m _ σ,fun _=>?_,fun r hr _=>tX _ _ hr⟩;have:=hr (k - 1) sN;rw [show ((k - 1:Nat):Int)=(k:Int) - 1 by omega] at this;rw [uG,c3,BA _ _ sN,hz,this,hm]
 rw [aD c3];obtain ⟨σ',e1,e2,e3⟩:=GU (k:=k) (to:=(k:Int)+i) (tm:=(k:Int)+n) (a:=q.a) (b:=q.b) hz sN sN sN (k - 1) ((k:Int) - 1) σ sN (fun h=>by omega) hr (by
  have:=hr (k - 1) sN;rw [show ((k - 1:Nat):Int)=(k:Int) - 1 by omega] at this;rw [this,GS sN,eX sN,hz,iH,lA,gT];show _=_+q.a*0;rw [bS,fI])
 exact ⟨σ',e1,fun _=>e2,e3⟩
theorem GW {k:Nat} (n:Nat) {z:List Int} (hz:z.length=k) (h1:1≤k):∀ (l:List R2) (i:Nat) (σ:Int→Int),i+l.length≤n→(∀ j:Nat,j<k→σ j=z[j]?.getD 0)→
 ∃ σ',vS (AY k n i l) σ=some σ'∧(k≠1→∀ t:Nat,t<l.length→σ' ((k:Int)+((i+t:Nat):Int))=ev z (l[t]?.getD default).a (l[t]?.getD default).b)∧∀ r:Int,r<(k:Int)+i→σ' r=σ r
 | [],i,σ,_,_=>⟨σ,U,fun _ t ht=>absurd ht tU,fun _ _=>rfl⟩
 | q :: l,i,σ,hi,hr=>by
   rw [bA] at hi;obtain ⟨σ1,e1,e2,e3⟩:=PG (q:=q) (n:=n) hz h1 (show i<n by omega) σ hr;obtain ⟨σ2,f1,f2,f3⟩:=GW n hz h1 l (i+1) σ1 sN (fun j hj=>by rw [e3 _ sN sN];exact hr j hj);refine ⟨σ2,tP e1 f1,fun hk t ht=>?_,fun r hr=>by rw [f3 r sN,e3 r sN sN]⟩;cases t with
   | zero =>
     rw [iS,f3 _ sN,e2 hk];rfl
   | succ t =>
     rw [bA] at ht;have:=f2 hk t sN;rw [show i+1+t=i+(t+1) by omega] at this;exact this
theorem UP {to a c R:Int} (h1:0≤to∧to<R) (h2:0≤a∧a<R) (hc:1≤c∧c≤64):tB ⟨7,to,a,0,c⟩ R=true:=by
 unfold tB;rw [aU,aU,aT,eK];refine ⟨⟨(show 1≤(7:Int)∧(7:Int)≤8∧0≤to∧to<R∧((7:Int)=3∨(7:Int)=4∨(0:Int)=0) by omega),?_⟩,fun r hr=>?_⟩
 · unfold tD;rw [aD (show ¬((7:Int)=5∨(7:Int)=6) by omega),aF (show ((7:Int)=7∨(7:Int)=8) by omega),aT];exact hc
 rw [aT];unfold tC at hr;rw [aD (show ¬((7:Int)=3∨(7:Int)=4) by omega),aF (show 1≤(7:Int)∧(7:Int)≤8 by omega)] at hr;rw [eT.1 hr];exact h2
theorem Og {R:Int} {i:Sl.Instr} (h:tB i R=true) (hd:¬(i.op=6∨i.op=8)):Good R 1 0 [i]:=(pD h).mono (aH _) (nG (aD hd))
theorem BB {R to a c:Int} (h1:0≤to∧to<R) (h2:0≤a∧a<R) (hc:c≠0∧-512≤c∧c≤512):Good R 1 0 (Ks to a c):=by
 unfold Ks;split
 · split
   · exact (iC R).mono sN (aH _)
   exact Og (Fu (.inl U) h1 h2) (by show ¬((1:Int)=6∨(1:Int)=8);decide)
 split
 · exact Og (Fu (.inr U) h1 h2) (by show ¬((2:Int)=6∨(2:Int)=8);decide)
 split
 · exact Og (Ls (.inl U) h1 h2 hc) (by show ¬((5:Int)=6∨(5:Int)=8);decide)
 rename_i hp;refine Og (UP h1 h2 ?_) (by show ¬((7:Int)=6∨(7:Int)=8);decide);rcases Cr hp with rfl | rfl | rfl | rfl | rfl | rfl | rfl | rfl | rfl <;> decide
theorem Ke {R to c:Int} (h1:0≤to∧to<R) (hc:c≠0∧-512≤c∧c≤512):∀ (n:Nat) (a:Int),0≤a∧a<R→Good R n 0 (Kd to c a n)
 | 0,_,_=>iC R
 | n+1,a,h2=>((BB h1 h2 hc).append (Ke h1 hc n to h1)).mono sN (aH _)
theorem PI {R to tm b j:Int} {n:Nat} (h1:0≤to∧to<R) (h2:0≤tm∧tm<R) (h3:0≤j∧j<R) (hb:b≠0∧-512≤b∧b≤512):Good R (n+1) 0 (GR to tm b j n):=by
 unfold GR;split
 · exact (Ka h1 h1 h3).mono sN (aH _)
 split
 · exact (Fe h1 h1 h3).mono sN (aH _)
 exact (Ke h2 hb n j h3).append (Ka h1 h1 h2)
theorem BC {k:Nat} {R to tm a b:Int} (h1:0≤to∧to<R) (h2:0≤tm∧tm<R) (hk:(k:Int)≤R) (ha:a≠0∧-512≤a∧a≤512) (hb:b≠0∧-512≤b∧b≤512) :
 ∀ (m:Nat) (fr:Int),m+1≤k→0≤fr∧fr<R→Good R (m*(k+1)) 0 (KT k to tm a b fr m)
 | 0,_,_,_=>(iC R).mono (aM _) (aH _)
 | m+1,fr,hm,h3=>((BB h1 h3 ha).append ((PI (n:=k - 1 - m) h1 h2 sN hb).append (BC h1 h2 hk ha hb m to sN h1))).mono (by rw [rR];omega) (aH _)
theorem JU {k n i:Nat} {q:R2} (h1:1≤k) (h8:k≤8) (hi:i<n) (hq:near q.a q.b):Good ((k:Int)+n+1) 63 0 (Bw k n i q):=by
 have hq':-16≤q.a∧q.a≤16∧-16≤q.b∧q.b≤16:=by unfold near at hq;omega
 unfold Bw;by_cases hk:k=1
 · rw [aF hk];exact (iC _).mono (aM _) (aH _)
 rw [aD hk];by_cases c1:q.a=0∧q.b=0
 · rw [aF c1];exact (Fe sN sN sN).mono sN (aH _)
 rw [aD c1];by_cases c2:q.a=0
 · rw [aF c2];exact (Ke sN sN _ _ sN).mono sN (aH _)
 rw [aD c2];by_cases c3:q.b=0
 · rw [aF c3];exact (Ke sN sN _ _ sN).mono sN (aH _)
 rw [aD c3];exact (BC sN sN sN sN sN _ _ sN sN).mono (bO (gQ (show k - 1≤7 by omega) (show k+1≤9 by omega)) (aH _)) (aH _)
theorem Qp {k n:Nat} (h1:1≤k) (h8:k≤8):∀ (l:List R2) (i:Nat),i+l.length≤n→(∀ q∈l,near q.a q.b)→Good ((k:Int)+n+1) (63*l.length) 0 (AY k n i l)
 | [],_,_,_=>iC _
 | q :: l,i,hi,hq=>by
   rw [bA] at hi;exact ((JU h1 h8 (show i<n by omega) (hq q bD)).append (Qp h1 h8 l (i+1) sN fun p hp=>hq p (aW _ hp))).mono Ms (aH _)
def Lw (k:Nat) (l:List R2):Prop:=1≤k∧k≤8∧1≤l.length∧l.length≤15∧Ex l
theorem Ur {l:List R2} (h:Ex l):∀ q∈l,near q.a q.b:=fun q hq=>by
 obtain ⟨i,hi,rfl⟩:=fY.1 hq;have:=h i hi;rw [aA hi] at this;exact this
theorem Fv {k:Nat} {l:List R2} (h:Lw k l):Good ((k:Int)+l.length+1) (63*l.length) 0 (AY k l.length 0 l):=Qp h.1 h.2.1 l 0 sN (Ur h.2.2.2.2)
theorem Qq {k:Nat} {l:List R2} (h:Lw k l):sP (evP k l)=true:=by
 have hg:=Fv h;obtain ⟨h1,h2,h3,h4,h5⟩:=h;have hgl:=hg.len;have hol:(evP k l).outs.length=l.length:=by show ((List.range l.length).map _).length=_;rw [aN,cC]
 refine Lr ⟨by show (1:Int)≤k;omega,by show (k:Int)≤(k:Int)+l.length+1;omega,by show (k:Int)+l.length+1≤128;omega,bO hgl sN,by omega,by omega⟩ (fun r hr=>?_) hg.fit;obtain ⟨i,hi,rfl⟩:=dL.1 (show r∈(List.range l.length).map (JT k) from hr);have:=iG.1 hi;show 0≤JT k i∧JT k i<(k:Int)+l.length+1;unfold JT;split <;> omega
theorem UQ {l:List Sl.Instr} (h:Wu l≤0):∀ i∈l,¬(i.op=6∨i.op=8):=fun i hi hd=>by
 unfold Wu at h;have:(l.filter fun i=>AL i)=[]:=List.length_eq_zero_iff.1 (oE.1 h);rw [List.filter_eq_nil_iff] at this;exact this i hi (bL hd)
theorem PJ {k:Nat} {l:List R2} (h:Lw k l) {z:List Int} (hz:z.length=k):Dz (evP k l) z=some (l.map fun q=>ev z q.a q.b):=by
 have hg:=Fv h;obtain ⟨h1,h2,h3,h4,h5⟩:=h;generalize hrs:vR (evP k l) z=rs;have hrl:(rs.length:Int)=(k:Int)+l.length+1:=by
  rw [←hrs];unfold vR;rw [aB,aJ,hz];show ((k+(((k:Int)+l.length+1).toNat - k):Nat):Int)=_;omega
 have hr0:∀ i,i<k→rs[i]?.getD 0=z[i]?.getD 0:=fun i hi=>by
  rw [←hrs];unfold vR;rw [bF sN]
 obtain ⟨σ',e1,e2,e3⟩:=GW l.length hz h1 l 0 (fun r=>rs[r.toNat]?.getD 0) sN (fun j hj=>by rw [aE];exact hr0 j hj);obtain ⟨rs',c1,c2,c3⟩:=Qo (AY k l.length 0 l) (fun r=>rs[r.toNat]?.getD 0) σ' rs hg.fit hrl (fun r _ _=>rfl) e1;unfold Dz;rw [Dr _ _ _ (aH _),aZ,hrs];show (CP (AY k l.length 0 l) rs).map (yT (evP k l))=_;rw [c1];show some (yT (evP k l) rs')=_;congr 1;unfold yT evP;simp only;apply fL
 · rw [aN,aN,cC,aN]
 intro j g1 g2;rw [aN] at g2;rw [fA,fA,kW,fA];unfold JT;by_cases hk:k=1
 · rw [aF hk];have:=c3 0 sN sN;show rs'[(0:Int).toNat]?.getD 0=_;rw [←this,e3 0 sN];show rs[(0:Int).toNat]?.getD 0=_;rw [show (0:Int).toNat=0 from rfl,hr0 0 sN];cases z with
   | nil=>simp at hz;omega
   | cons c f =>
     cases f with
     | nil=>simp [ev]
     | cons d f=>simp at hz;omega
 rw [aD hk,←c3 _ sN sN];have:=e2 hk j g2;rw [cR] at this;rw [this,aA g2];rfl
theorem Fw {k:Nat} {l:List R2} (h:Lw k l):uV (evP k l) k l:=by
 have hol:(evP k l).outs.length=l.length:=by show ((List.range l.length).map _).length=_;rw [aN,cC]
 refine ⟨U,hol,UQ (Fv h).dv,?_⟩;rw [aE];refine Fh (N:=k) (Qq h) (by rw [yD];rfl) (fun r hr=>?_) (by rw [aN,hol]) (fun r hr=>?_) fun j hj=>?_
 · unfold vM at hr;obtain ⟨i,hi,rfl⟩:=dL.1 hr;exact At k i
 · obtain ⟨q,hq,rfl⟩:=dL.1 hr;exact Js _ _ _
 have e1:Cn j (vM k)=uH k j:=by
  refine gW fun i=>?_;rcases aK i k with hi | hi
  · have hl1:i<(Cn j (vM k)).length:=by rw [yW,yD];exact hi
    have hl2:i<(uH k j).length:=by rw [At];exact hi
    have h1:(Cn j (vM k))[i]?.getD 0=(uH k j)[i]?.getD 0:=by
     rw [Fg,JB hi];unfold uH;rw [cF,cF,fS,fS,aJ];by_cases hij:i=j
     · subst hij;rw [aF rfl,aF hj]
     rw [aD hij,aD (lO hij),aF hi,aF hj]
    rw [aA hl1,aA hl2] at h1 ⊢;exact congrArg some h1
  rw [bZ (by rw [yW,yD];exact hi),bZ (by rw [At];exact hi)]
 rw [e1,PJ h (At k j)];congr 1;unfold Cn;rw [oU];apply jF;intro q hq;show ev (uH k j) q.a q.b=(yC q.a q.b k)[j]?.getD 0;rw [AX hj];unfold yC;rw [bM,eV hj];rfl
def Ya (to a c:Int):Sl.Instr:=if c=1 then ⟨1,to,a,0,0⟩ else if c=-1 then ⟨2,to,a,0,0⟩ else if wE c=0 then ⟨5,to,a,0,c⟩ else ⟨7,to,a,0,wE c⟩
def UR (i:Sl.Instr):List Sl.Instr:=if i.op≠1∨i.to≠i.a then [i] else []
theorem YP (to a c:Int):UR (Ya to a c)=Ks to a c:=by
 unfold UR Ya Ks;by_cases h1:c=1
 · simp only [aF h1];by_cases h2:to=a
   · rw [aF h2,aD];rintro (h | h)
     · exact h U
     exact h h2
   rw [aD h2,aF (.inr h2)]
 simp only [aD h1];by_cases h2:c=-1
 · simp only [aF h2];exact aF (.inl (show ¬((2:Int)=1) by decide))
 simp only [aD h2];by_cases h3:wE c=0
 · simp only [aF h3];exact aF (.inl (show ¬((5:Int)=1) by decide))
 simp only [aD h3];exact aF (.inl (show ¬((7:Int)=1) by decide))
theorem c90 (G:A3) (hT:TabOk G) (to a c:Int) (hc:c≠0∧-512≤c∧c≤512):Does Tryz.prog 90 [.int .i64 to,.int .i64 a,.int .i64 c] G [] (fun v G' Ho=>v=.agg #[.int .i64 (Ya to a c).op,.int .i64 (Ya to a c).to,.int .i64 (Ya to a c).a,.int .i64 (Ya to a c).b,.int .i64 (Ya to a c).c]∧G'=G∧Ho=[]):=by
 refine D0 Tryz.func90 Tryz.ntmps90 fun w=>?_;refine aI 2 [] ?_;refine aO 0 U T.zero91 fun b1=>?_;refine bB 11 [] ?_;refine cW (fun hc1=>?_) fun hc1=>?_;refine aI 4 [] ?_;refine aQ (bP (cs:=[_,_,_,_,_]) T.st91 U U U) ?_;refine aS 6 [0] ?_;refine cH (.inr U) (Ho:=Hp.only _ []) U (.agg 0 U U T.agg91) (aV _ _) ?_;rotate_left;refine bI 7 [] ?_;refine cW (fun hc2=>?_) fun hc2=>?_;refine aI 4 [] ?_;refine aQ (bP (cs:=[_,_,_,_,_]) T.st91 U U U) ?_;refine aS 6 [0] ?_;refine cH (.inr U) (Ho:=Hp.only _ []) U (.agg 0 U U T.agg91) (aV _ _) ?_;rotate_left;refine aI 5 [] ?_;apply bX 6 22 28 U;intro hg1;refine aC 7 [] ?_;refine aQ (lN U U) ?_;refine aC 3 [] ?_;exact dB 6 0;intro hg1;refine aC 6 [] ?_;exact dB 6 0;refine bB 3 [] ?_;refine cW (fun hc3=>?_) fun hc3=>?_;refine aI 5 [] ?_;refine aQ (dI U T.u199 U sN) ?_;rotate_left;refine aI 8 [] ?_;refine aQ (bP (cs:=[_,_,_,_,_]) T.st91 U U U) ?_;refine aS 4 [0] ?_;refine cH (.inr U) (Ho:=Hp.only _ []) U (.agg 0 U U T.agg91) (aV _ _) ?_;rotate_left
 · have e:Ya to a c=⟨1,to,a,0,0⟩:=aF hc1;rw [e];exact ⟨U,U,U⟩
 · have e:Ya to a c=⟨2,to,a,0,0⟩:=(aD hc1).trans (aF hc2);rw [e];exact ⟨U,U,U⟩
 · have hp:wE c≠0:=(Fs ⟨by omega,hc.2.2⟩).1 hc3.2;refine cI U (aa _ hT _ hp) ?_;refine aQ (bP (cs:=[_,_,_,_,_]) T.st91 U U U) ?_;refine aS 6 [0] ?_;refine cH (.inr U) (Ho:=Hp.only _ []) U (.agg 0 U U T.agg91) (aV _ _) ?_;have e:Ya to a c=⟨7,to,a,0,wE c⟩:=(aD hc1).trans ((aD hc2).trans (aD hp));rw [e];exact ⟨U,U,U⟩
 have hp:wE c=0:=by
  rcases qF c 2 with h2 | h2
  · exact Lf h2
  exact dY fun hn=>hc3 ⟨by omega,(Fs ⟨h2,hc.2.2⟩).2 hn⟩
 have e:Ya to a c=⟨5,to,a,0,c⟩:=(aD hc1).trans ((aD hc2).trans (aF hp));rw [e];exact ⟨U,U,U⟩
abbrev Sx (b:Nat) (ins regs:Int) (ac:Option Addr) (cc:Nat) (code:List Sl.Instr) (j:List Value) (oa:Option Addr) (on oc:Nat):Hp:=[(0,some b,.cells #[.int .i64 ins,.int .i64 regs,.slice ac code.length cc,.slice oa on oc] 26),(1,ac.map (·.block),Row 91 code j)]
theorem c88 (G:A3) (b:Nat) (ins regs:Int) (ac:Option Addr) (cc:Nat) (code:List Sl.Instr) (j:List Value) (oa:Option Addr) (on oc:Nat) (op to x y c:Int) (ho:A4 ac cc code j) (hl:code.length≤1048576) :
 Does Tryz.prog 88 [.agg #[.int .i64 op,.int .i64 to,.int .i64 x,.int .i64 y,.int .i64 c],.pointer (some ⟨b,0,none⟩)] G (Sx b ins regs ac cc code j oa on oc)
  (fun v G' Ho=>v=.tuple #[]∧G'=G∧∃ (a':Option Addr) (c':Nat) (j':List Value),A4 a' c' (code++UR ⟨op,to,x,y,c⟩) j'∧Ho=Sx b ins regs a' c' (code++UR ⟨op,to,x,y,c⟩) j' oa on oc):=by
 unfold Sx;refine D0 Tryz.func88 Tryz.ntmps88 fun w=>?_;refine aI 2 [] ?_;refine dV 2 fun b1=>?_;refine aL 8 [2] ?_;apply dS 6 6 12 U;intro hg1;refine aC 11 [2,2] ?_;exact dB 6 0;intro hg1;refine aC 6 [] ?_;exact dB 6 0;refine bB 2 [] ?_;refine cW (fun hc1=>?_) fun hc1=>?_;refine aI 4 [0,2] ?_;refine cZ (α:=Sl.Instr) 3 [⟨op,to,x,y,c⟩] U T.sl23 T.el91 U U U U U fun b2=>?_;refine kH (α:=Sl.Instr) 1 T.sl23 T.el91 (dT 3 U) fun a1 c1 junk1 ho1=>?_;refine aS 3 [0] ?_;rotate_left;refine kI ?_;rotate_left
 · have e:UR ⟨op,to,x,y,c⟩=[⟨op,to,x,y,c⟩]:=aF hc1;rw [e];refine kD zR (Ho:=[(0,some b,.cells #[.int .i64 ins,.int .i64 regs,.slice a1 (code++[(⟨op,to,x,y,c⟩:Sl.Instr)]).length c1,.slice oa on oc] 26),(1,a1.map (·.block),Row 91 (code++[⟨op,to,x,y,c⟩]) junk1)]) U ⟨U,U,F9⟩ ?_;exact ⟨U,U,a1,c1,junk1,ho1,U⟩
 have e:UR ⟨op,to,x,y,c⟩=[]:=aD hc1;rw [e,aY];refine kD zR (Ho:=[(0,some b,.cells #[.int .i64 ins,.int .i64 regs,.slice ac code.length cc,.slice oa on oc] 26),(1,ac.map (·.block),Row 91 code j)]) U ⟨U,U,F9⟩ ?_;exact ⟨U,U,ac,cc,j,ho,U⟩
theorem df (G:A3) (b:Nat) (ins regs:Int) (ac:Option Addr) (cc:Nat) (code:List Sl.Instr) (j:List Value) (oa:Option Addr) (on oc:Nat) (to a c:Int) (ho:A4 ac cc code j) (hl:code.length≤1048576) :
 Does Tryz.prog 88 [.agg #[.int .i64 (Ya to a c).op,.int .i64 (Ya to a c).to,.int .i64 (Ya to a c).a,.int .i64 (Ya to a c).b,.int .i64 (Ya to a c).c],.pointer (some ⟨b,0,none⟩)] G (Sx b ins regs ac cc code j oa on oc)
  (fun v G' Ho=>v=.tuple #[]∧G'=G∧∃ (a':Option Addr) (c':Nat) (j':List Value),A4 a' c' (code++Ks to a c) j'∧Ho=Sx b ins regs a' c' (code++Ks to a c) j' oa on oc):=by
 rw [←YP to a c];exact c88 G b ins regs ac cc code j oa on oc _ _ _ _ _ ho hl
theorem US (G:A3) (b:Nat) (ins regs:Int) (ac:Option Addr) (cc:Nat) (code:List Sl.Instr) (j:List Value) (oa:Option Addr) (on oc:Nat) (op to x y c:Int) (hop:op≠1) (ho:A4 ac cc code j) (hl:code.length≤1048576) :
 Does Tryz.prog 88 [.agg #[.int .i64 op,.int .i64 to,.int .i64 x,.int .i64 y,.int .i64 c],.pointer (some ⟨b,0,none⟩)] G (Sx b ins regs ac cc code j oa on oc)
  (fun v G' Ho=>v=.tuple #[]∧G'=G∧∃ (a':Option Addr) (c':Nat) (j':List Value),A4 a' c' (code++[⟨op,to,x,y,c⟩]) j'∧Ho=Sx b ins regs a' c' (code++[⟨op,to,x,y,c⟩]) j' oa on oc):=by
 rw [show ([⟨op,to,x,y,c⟩]:List Sl.Instr)=UR ⟨op,to,x,y,c⟩ from (aF (.inl hop)).symm];exact c88 G b ins regs ac cc code j oa on oc _ _ _ _ _ ho hl
theorem Wz (to a c:Int):(Ks to a c).length≤1:=by
 unfold Ks
 repeat' split
 all_goals simp
theorem GX (to c:Int):∀ (n:Nat) (a:Int),(Kd to c a n).length≤n
 | 0,_=>aH _
 | n+1,a=>by
   show (Ks to a c++Kd to c to n).length≤n+1;rw [aB];have h1:=GX to c n to;have h2:=Wz to a c;omega
theorem PK (to c a:Int):Kd to c a 0=[]:=rfl
theorem PL (to c a:Int) (n:Nat):Kd to c a (n+1)=Ks to a c++Kd to c to n:=rfl
section
attribute [local irreducible] Kd Ks Ya UR
theorem kg (G:A3) (hT:TabOk G) (b b7:Nat) (ins regs:Int) (ac:Option Addr) (cc:Nat) (code:List Sl.Instr) (j:List Value) (oa:Option Addr) (on oc:Nat) (to a c:Int) (n:Nat) (hc:c≠0∧-512≤c∧c≤512)
 (hb7:G b7=some (.cells #[.func (.func 88) #[] #[.pointer (some ⟨b,0,none⟩)]] 150 (0,0))) (ho:A4 ac cc code j) (hl:code.length+n≤1048576) :
 Does Tryz.prog 89 [.int .i64 to,.int .i64 a,.int .i64 c,.int .i64 (n:Int),.pointer (some ⟨b7,0,none⟩)] G (Sx b ins regs ac cc code j oa on oc)
  (fun v G' Ho=>v=.tuple #[]∧G'=G∧∃ (a':Option Addr) (c':Nat) (j':List Value),A4 a' c' (code++Kd to c a n) j'∧Ho=Sx b ins regs a' c' (code++Kd to c a n) j' oa on oc):=by
 unfold Sx;refine D0 Tryz.func89 Tryz.ntmps89 fun w=>?_;refine bI 7 [] ?_;refine fT (ι:=Nat×Int×List Sl.Instr×(Option Addr×Nat×List Value)) (fun (i,x,cd,(o,d,jj))=>([(10,.int .i64 (i:Int)),(1,.int .i64 x),(9,.int .i64 (n:Int)),(0,.int .i64 to),(2,.int .i64 c),(4,.pointer (some ⟨b7,0,none⟩))],[(0,some b,.cells #[.int .i64 ins,.int .i64 regs,.slice o cd.length d,.slice oa on oc] 26),(1,o.map (·.block),Row 91 cd jj)])) (fun (i,x,cd,(o,d,jj))=>i≤n∧cd++Kd to c x (n - i)=code++Kd to c a n∧A4 o d cd jj∧cd.length≤code.length+i) (fun (i,x,cd,(o,d,jj))=>n - i) ((0,a,code,(ac,cc,j))) (⟨aM _,U,ho,aH _⟩) ⟨U,U,U,U,U,U,F9⟩ ⟨U,U,F9⟩ fun ⟨i,x,cd,(o,d,jj)⟩=>fun hk=>?_;obtain ⟨hi,hcd,hown,hlen⟩:=hk;rcases aK i n with hin | hin
 · obtain ⟨m,hm⟩:∃ m,n - i=m+1:=⟨n - i - 1,by omega⟩
   rw [hm,PL] at hcd;refine bI 12 [1] ?_;refine gM [] [] T.mixed U ?_;refine dW 0 [] U (bW T.one150 U (vW hb7 U)) ?_;refine dK [[1],[2],[3]] ?_;refine bQ 4 ?_;refine cI U (c90 _ hT to x c hc) ?_;refine cS 5 ?_;refine fE (fst:=[]) (cap:=[.pointer (some ⟨b,0,none⟩)]) 0 U T.fn88 U U (df G b ins regs o d cd jj oa on oc to x c hown sN) (sS ⟨U,U,F9⟩) fun v9 G9 Ho9 hle9 hp=>?_;obtain ⟨rfl,rfl,o9,d9,j9,how9,rfl⟩:=hp;refine fD ?_;refine eE 11 [] ?_;have hl1:=Wz to x c;refine cK ((i+1,to,cd++Ks to x c,(o9,d9,j9))) ?_ ?_
   · refine ⟨by omega,?_,how9,by rw [aB];omega⟩;rw [aR,show n - (i+1)=m by omega];exact hcd
   show n - (i+1)<n - i;omega
 have hz:n - i=0:=sN;rw [hz,PK,aY] at hcd;subst hcd;refine bE 11 [0] ?_;refine kD zR (Ho:=[(0,some b,.cells #[.int .i64 ins,.int .i64 regs,.slice o (code++Kd to c a n).length d,.slice oa on oc] 26),(1,o.map (·.block),Row 91 (code++Kd to c a n) jj)]) U ⟨U,U,F9⟩ ?_;exact ⟨U,U,o,d,jj,hown,U⟩
end
theorem Ce {k:Nat} {l:List R2} (hR:tW l) (hk:1≤k∧k≤8):Lw k l:=⟨hk.1,hk.2,hR.1,hR.2.1,fun i hi=>(hR.2.2.1 i hi).1⟩
theorem Lx {l:List R2} (hR:tW l) {i:Nat} (hi:i<l.length):near (l[i]?.getD default).a (l[i]?.getD default).b∧¬((l[i]?.getD default).a=0∧(l[i]?.getD default).b=0):=hR.2.2.1 i hi
theorem UT {k:Nat} (h:k=1) (i:Nat):JT k i=0:=aF h
theorem Xa {k:Nat} (h:¬k=1) (i:Nat):JT k i=(k:Int)+i:=aD h
theorem PM {k n i:Nat} {q:R2} (h:k=1):Bw k n i q=[]:=aF h
theorem JV {k n i:Nat} {q:R2} (h:¬k=1) (h0:¬(q.a=0∧q.b=0)) (ha:q.a=0):Bw k n i q=Kd ((k:Int)+i) q.b 0 (k - 1):=by unfold Bw;rw [aD h,aD h0,aF ha]
theorem EH {k n i:Nat} {q:R2} (h:¬k=1) (ha:¬q.a=0) (hb:q.b=0):Bw k n i q=Kd ((k:Int)+i) q.a ((k:Int) - 1) (k - 1):=by unfold Bw;rw [aD h,aD (fun h=>ha h.1),aD ha,aF hb]
theorem JW {k n i:Nat} {q:R2} (h:¬k=1) (ha:¬q.a=0) (hb:¬q.b=0):Bw k n i q=KT k ((k:Int)+i) ((k:Int)+n) q.a q.b ((k:Int) - 1) (k - 1):=by unfold Bw;rw [aD h,aD (fun h=>ha h.1),aD ha,aD hb]
theorem PN (k:Nat) (to tm a b fr:Int):KT k to tm a b fr 0=[]:=rfl
theorem PO (k:Nat) (to tm a b fr:Int) (m:Nat):KT k to tm a b fr (m+1)=Ks to fr a++(GR to tm b m (k - 1 - m)++KT k to tm a b to m):=rfl
theorem GY {to tm b j:Int} {n:Nat} (h:b=1∨(b=-1∧n % 2=0)):GR to tm b j n=[⟨3,to,to,j,0⟩]:=aF h
theorem UU {to tm b j:Int} {n:Nat} (h:¬(b=1∨(b=-1∧n % 2=0))) (h1:b=-1):GR to tm b j n=[⟨4,to,to,j,0⟩]:=(aD h).trans (aF h1)
theorem UW {to tm b j:Int} {n:Nat} (h:¬(b=1∨(b=-1∧n % 2=0))) (h1:¬b=-1):GR to tm b j n=Kd tm b j n++[⟨3,to,to,tm,0⟩]:=(aD h).trans (aD h1)
theorem UX (k n i:Nat):AY k n i []=[]:=rfl
section
attribute [local irreducible] Kd Ks Ya UR tW KT GR Bw AY JT
theorem c43 (G:A3) (hT:TabOk G) (k:Nat) (a:Option Addr) (c:Nat) (l:List R2) (ha:Arr G a l) (hl:l.length≤1048576) (hR:tW l) (hk1:1≤k) (hk8:k≤8) :
 Does Tryz.prog 43 [.int .i64 (k:Int),.slice a l.length c] G [] (fun v G' Ho=>∃ ca oa cc oc,v=.tuple #[.agg #[.int .i64 (evP k l).ins,.int .i64 (evP k l).regs,.slice ca (evP k l).code.length cc,.slice oa (evP k l).outs.length oc],.int .i64 0]∧Arr G' ca (evP k l).code∧Arr G' oa (evP k l).outs∧Ho=[]):=by
 have hE:=Ce hR ⟨hk1,hk8⟩;have hl15:=hE.2.2.2.1;have hln:=hE.2.2.1;refine D0 Tryz.func43 Tryz.ntmps43 fun w=>?_;refine aI 2 [] ?_;refine aO 0 U T.zero26 fun b1=>?_;refine bB 3 [] ?_;refine mP ?_;refine aI 6 [] ?_;refine mZ 18 ?_;refine aC 6 [] ?_;refine mZ 22 ?_;refine aC 3 [] ?_;refine cI U (c87 _ _ _ _ sO sN hR) ?_;refine aC 1 [] ?_;refine aQ (fP U) ?_;refine aL 14 [0] ?_;refine aQ (bP (cs:=[_,_,_,_]) T.st26 U U U) ?_;refine aO 1 U T.zero26 fun b2=>?_;refine aL 5 [1] ?_;refine aQ (gR U U) ?_;refine aO 2 U T.zero150 fun b3=>?_;refine aL 14 [2] ?_;refine aQ (gR U U) ?_;refine bB 7 [] ?_;refine Wc.freeze 2 U fun G1 hle1 hb3=>?_;refine eJ 2 (Row 91 ([]:List Sl.Instr) []) (eJ 3 (Row 3 ([]:List Int) []) ?_);replace ha:=ha.up hle1;have hT1:=hT.up hle1;replace hb3:G1 b3=some (.cells #[.func (.func 88) #[] #[.pointer (some ⟨b2,0,none⟩)]] 150 (0,0)):=hb3;have hcell:G1.cell b3 0=some (.func (.func 88) #[] #[.pointer (some ⟨b2,0,none⟩)]):=vW hb3 U;refine bI 8 [] ?_;refine fT (ι:=Nat×(List Sl.Instr×Option Addr×Nat×List Value)×(List Int×Option Addr×Nat×List Value)) (fun (i,(cd,o,d,jj),(os,oo,od,kk))=>([(43,.int .i64 (i:Int)),(6,.pointer (some ⟨b2,0,none⟩)),(4,.pointer (some ⟨b1,0,none⟩)),(42,.int .i64 (l.length:Int)),(41,.slice a (List.length l) c),(9,.func (Go.Fn.func 89) #[] #[.pointer (some (Addr.mk b3 0 none))]),(8,.int .i64 ((↑k:Int)+(l.length:Int))),(7,.pointer (some (Addr.mk b3 0 none))),(5,.int .i64 0),(0,.int .i64 (↑k:Int))],[(0,some b1,.cells #[.int .i64 0,.int .i64 0,.slice none 0 0,.slice none 0 0] 26),(1,some b2,.cells #[.int .i64 (k:Int),.int .i64 ((k:Int)+l.length+1),.slice o cd.length d,.slice oo os.length od] 26),(2,o.map (·.block),Row 91 cd jj),(3,oo.map (·.block),Row 3 os kk)])) (fun (i,(cd,o,d,jj),(os,oo,od,kk))=>i≤l.length∧cd=AY k l.length 0 (l.take i)∧os=(List.range i).map (JT k)∧A4 o d cd jj∧A4 oo od os kk∧cd.length≤63*i∧os.length=i) (fun (i,(cd,o,d,jj),(os,oo,od,kk))=>l.length - i) ((0,([],none,0,[]),([],none,0,[]))) (⟨aM _,(UX _ _ _).symm,U,eG,eG,aM _,U⟩) ⟨U,U,U,U,U,U,U,U,U,U,F9⟩ ⟨U,U,U,U,F9⟩ fun ⟨i,(cd,o,d,jj),(os,oo,od,kk)⟩=>fun hk=>?_;obtain ⟨hi,hcd,hos,hown,hoo,hcl,hol⟩:=hk;rcases aK i l.length with hil | hil
 · have hT2:AY k l.length 0 (l.take (i+1))=cd++Bw k l.length i (l[(i:Int).toNat]?.getD default):=by
    rw [hcd,aE,cL,aA hil,dZ];show AY k l.length 0 (l.take i++[l[i]])=_;rw [AZ,cR,bG,cY sN]
   have hO2:(List.range (i+1)).map (JT k)=os++[JT k i]:=by
    rw [hos,oJ,jW];rfl
   have hq:near (l[(i:Int).toNat]?.getD default).a (l[(i:Int).toNat]?.getD default).b∧¬((l[(i:Int).toNat]?.getD default).a=0∧(l[(i:Int).toNat]?.getD default).b=0):=by rw [aE];exact Lx hR hil
   have hq':-16≤(l[(i:Int).toNat]?.getD default).a∧(l[(i:Int).toNat]?.getD default).a≤16∧-16≤(l[(i:Int).toNat]?.getD default).b∧(l[(i:Int).toNat]?.getD default).b≤16:=by have:=hq.1;unfold near at this;omega
   have hlen2:∀ x:Int,(os++[x]).length=i+1:=fun x=>by rw [aB,hol];rfl
   have hcl2:(AY k l.length 0 (l.take (i+1))).length≤63*(i+1):=by
    have h9:=(Qp (n:=l.length) hk1 hk8 (l.take (i+1)) 0 (by rw [bG];omega) (fun q hq=>Ur hE.2.2.2.2 q (qZ hq))).len;rw [bG,cY sN] at h9;exact h9
   have hn1:((k - 1:Nat):Int)=(k:Int) - 1:=sN;refine aI 14 [1] ?_;refine fR (α:=R2) T.sl22 ?_;refine lL T.agg52 ?_;refine aO 4 U T.zero52 fun b4=>?_;refine aL 17 [4,1] ?_;refine cZ (α:=Int) 5 [((↑k:Int)+(↑i:Int))] U T.sl24 T.el3 U U U U U fun b5=>?_;refine kH (α:=Int) 3 T.sl24 T.el3 (dT 5 U) fun a1 c1 junk1 ho1=>?_;refine bB 13 [1] ?_;refine cW (fun hc1=>?_) fun hc1=>?_;refine aI 5 [1] ?_;rotate_left;refine aI 6 [4] ?_;apply bX 4 68 72 U;intro hg1;refine aC 7 [4] ?_;exact dB 4 0;intro hg1;refine aC 4 [] ?_;exact dB 4 0;refine bB 12 [0,4] ?_;refine cW (fun hc2=>?_) fun hc2=>?_;refine aI 8 [4] ?_;rotate_left;refine bI 8 [4] ?_;refine cW (fun hc3=>?_) fun hc3=>?_;refine aI 10 [4] ?_;rotate_left;refine bI 18 [] ?_;rotate_left
   · refine aQ (dX (α:=Int) T.sl24 U U ho1 (show 0≤(i:Int)∧(i:Int)<(((os++[((k:Int)+i)]).length:Nat):Int) by rw [hlen2];omega)) ?_;refine dC (α:=Int) (m:=(i:Int)) (z:=(0:Int)) 3 T.size3 U U U ho1 (by rw [hlen2];omega) U fun ho2=>?_;have hset:(os++[((k:Int)+i)]).set (i:Int).toNat 0=os++[(0:Int)]:=by
      rw [aE,←hol,qP _ _ (aH _),iH];rfl
     rw [hset] at ho2;refine aS 11 [] ?_;have hk:k=1:=sN;have e8:JT k i=0:=UT hk i;have e9:Bw k l.length i (l[(i:Int).toNat]?.getD default)=[]:=PM hk;rw [e9,aY] at hT2;rw [e8] at hO2;refine gC 3 (Row 3 (os++[(0:Int)]) junk1) U (by rw [hset]) (gC 1 (.cells #[.int .i64 (k:Int),.int .i64 ((k:Int)+l.length+1),.slice o cd.length d,.slice a1 (os++[(0:Int)]).length c1] 26) U (congrArg (fun n:Nat=>Obj.cells #[.int .i64 (k:Int),.int .i64 ((k:Int)+l.length+1),.slice o cd.length d,.slice a1 n c1] 26 (0,0)) (show (os++[((k:Int)+i)]).length=(os++[(0:Int)]).length by rw [hlen2,hlen2])) ?_);refine cK ((i+1,(cd,o,d,jj),(os++[0],a1,c1,junk1))) ?_ ?_
     · exact ⟨by omega,hT2.symm,hO2.symm,hown,ho2,by rw [←hT2];exact hcl2,hlen2 _⟩
     show l.length - (i+1)<l.length - i;omega
   · have hk:¬k=1:=sN;rw [Xa hk i] at hO2;have hb0:(l[(i:Int).toNat]?.getD default).b≠0:=fun h=>hq.2 ⟨by assumption,h⟩;refine fO 86 U (show _=Value.int .i64 ((k - 1:Nat):Int) by rw [hn1]) ?_;refine fE (fst:=[]) (cap:=[.pointer (some ⟨b3,0,none⟩)]) 1 U T.fn89 U U (kg G1 hT1 b2 b3 _ _ o d cd jj a1 (os++[((k:Int)+i)]).length c1 ((k:Int)+i) 0 (l[(i:Int).toNat]?.getD default).b (k - 1) sN hb3 hown sN) (sS ⟨U,U,F9⟩) fun v9 G9 Ho9 hle9 hp=>?_;obtain ⟨rfl,rfl,o9,d9,j9,how9,rfl⟩:=hp;refine aS 11 [] ?_;have e9:Bw k l.length i (l[(i:Int).toNat]?.getD default)=Kd ((k:Int)+i) (l[(i:Int).toNat]?.getD default).b 0 (k - 1):=JV hk hq.2 sO;rw [e9] at hT2;refine cK ((i+1,(cd++Kd ((k:Int)+i) (l[(i:Int).toNat]?.getD default).b 0 (k - 1),o9,d9,j9),(os++[((k:Int)+i)],a1,c1,junk1))) ?_ ?_
     · exact ⟨by omega,hT2.symm,hO2.symm,how9,ho1,by rw [←hT2];exact hcl2,hlen2 _⟩
     show l.length - (i+1)<l.length - i;omega
   · have hk:¬k=1:=sN;rw [Xa hk i] at hO2;refine fO 99 U (show _=Value.int .i64 ((k - 1:Nat):Int) by rw [hn1]) ?_;refine fE (fst:=[]) (cap:=[.pointer (some ⟨b3,0,none⟩)]) 1 U T.fn89 U U (kg G1 hT1 b2 b3 _ _ o d cd jj a1 (os++[((k:Int)+i)]).length c1 ((k:Int)+i) ((k:Int) - 1) (l[(i:Int).toNat]?.getD default).a (k - 1) sN hb3 hown sN) (sS ⟨U,U,F9⟩) fun v9 G9 Ho9 hle9 hp=>?_;obtain ⟨rfl,rfl,o9,d9,j9,how9,rfl⟩:=hp;refine aS 11 [] ?_;have e9:Bw k l.length i (l[(i:Int).toNat]?.getD default)=Kd ((k:Int)+i) (l[(i:Int).toNat]?.getD default).a ((k:Int) - 1) (k - 1):=EH hk sO sO;rw [e9] at hT2;refine cK ((i+1,(cd++Kd ((k:Int)+i) (l[(i:Int).toNat]?.getD default).a ((k:Int) - 1) (k - 1),o9,d9,j9),(os++[((k:Int)+i)],a1,c1,junk1))) ?_ ?_
     · exact ⟨by omega,hT2.symm,hO2.symm,how9,ho1,by rw [←hT2];exact hcl2,hlen2 _⟩
     show l.length - (i+1)<l.length - i;omega
   have hk:¬k=1:=sN;rw [Xa hk i] at hO2;have e9:Bw k l.length i (l[(i:Int).toNat]?.getD default)=KT k ((k:Int)+i) ((k:Int)+l.length) (l[(i:Int).toNat]?.getD default).a (l[(i:Int).toNat]?.getD default).b ((k:Int) - 1) (k - 1):=JW hk sO sO;rw [e9] at hT2;refine iV 14 U (show _=Value.int .i64 (((k - 1:Nat):Int) - 1) by rw [hn1];congr 1;omega) ?_;refine fT (ι:=Nat×Int×(List Sl.Instr×Option Addr×Nat×List Value)) (fun (m,fr,(ce,o',d',jj'))=>([(14,.int .i64 ((m:Int) - 1)),(13,.int .i64 fr),(43,.int .i64 (i:Int)),(42,.int .i64 (l.length:Int)),(41,.slice a l.length c),(6,.pointer (some ⟨b2,0,none⟩)),(4,.pointer (some ⟨b1,0,none⟩)),(9,.func (.func 89) #[] #[.pointer (some ⟨b3,0,none⟩)]),(8,.int .i64 ((k:Int)+l.length)),(7,.pointer (some ⟨b3,0,none⟩)),(5,.int .i64 0),(0,.int .i64 (k:Int)),(12,.int .i64 ((k:Int)+i)),(11,.pointer (some ⟨b4,0,none⟩))],[(0,some b1,.cells #[.int .i64 0,.int .i64 0,.slice none 0 0,.slice none 0 0] 26),(1,some b2,.cells #[.int .i64 (k:Int),.int .i64 ((k:Int)+l.length+1),.slice o' ce.length d',.slice a1 (os++[((k:Int)+i)]).length c1] 26),(2,o'.map (·.block),Row 91 ce jj'),(3,a1.map (·.block),Row 3 (os++[((k:Int)+i)]) junk1),(4,some b4,.cells #[.int .i64 (l[(i:Int).toNat]?.getD default).a,.int .i64 (l[(i:Int).toNat]?.getD default).b] 52),(5,some b5,Row (α:=Int) 3 ([(↑k:Int)+(↑i:Int)]) ([]))])) (fun (m,fr,(ce,o',d',jj'))=>m≤k - 1∧ce++KT k ((k:Int)+i) ((k:Int)+l.length) (l[(i:Int).toNat]?.getD default).a (l[(i:Int).toNat]?.getD default).b fr m=cd++KT k ((k:Int)+i) ((k:Int)+l.length) (l[(i:Int).toNat]?.getD default).a (l[(i:Int).toNat]?.getD default).b ((k:Int) - 1) (k - 1)∧A4 o' d' ce jj'∧ce.length≤cd.length+9*(k - 1 - m)) (fun (m,fr,(ce,o',d',jj'))=>m) ((k - 1,(k:Int) - 1,(cd,o,d,jj))) (⟨aH _,U,hown,Nat.le_add_right _ _⟩) ⟨U,U,U,U,U,U,U,U,U,U,U,U,U,U,F9⟩ ⟨U,U,U,U,U,U,F9⟩ fun ⟨m,fr,(ce,o',d',jj')⟩=>fun hk=>?_;obtain ⟨hm,hce,hown',hcel⟩:=hk;rcases gD m with hm0 | hm0
   · subst hm0;rw [PN,aY] at hce;refine bE 18 [0] ?_;rw [←hce] at hT2;refine cK ((i+1,(ce,o',d',jj'),(os++[((k:Int)+i)],a1,c1,junk1))) ?_ ?_
     · exact ⟨by omega,hT2.symm,hO2.symm,hown',ho1,by rw [←hT2];exact hcl2,hlen2 _⟩
     show l.length - (i+1)<l.length - i;omega
   obtain ⟨m,rfl⟩:∃ m',m=m'+1:=⟨m - 1,by omega⟩
   rw [PO] at hce;have hl1:=Wz ((k:Int)+i) fr (l[(i:Int).toNat]?.getD default).a;have hl2:=GX ((k:Int)+l.length) (l[(i:Int).toNat]?.getD default).b (k - 1 - m) (m:Int);have hnm:((k - 1 - m:Nat):Int)=(k:Int) - 1 - m:=sN;refine iV 14 U (show _=Value.int .i64 (m:Int) by congr 1;omega) ?_;refine bI 13 [1] ?_;refine gM [4] [] T.mixed U ?_;refine dW 0 [] U (bW T.one150 U hcell) ?_;refine dK [[1],[2],[3],[4,4]] ?_;refine bQ 5 ?_;refine cI U (c90 _ hT1 ((k:Int)+i) fr (l[(i:Int).toNat]?.getD default).a sN) ?_;refine cS 6 ?_;refine fE (fst:=[]) (cap:=[.pointer (some ⟨b2,0,none⟩)]) 1 U T.fn88 U U (df G1 b2 _ _ o' d' ce jj' a1 (os++[((k:Int)+i)]).length c1 ((k:Int)+i) fr (l[(i:Int).toNat]?.getD default).a hown' sN) (sS ⟨U,U,F9⟩) fun v6 G6 Ho6 hle6 hp=>?_;obtain ⟨rfl,rfl,o6,d6,j6,how6,rfl⟩:=hp;refine fD ?_;have hhb:∀ n:Nat,((n:Int)=(k:Int) - 1 - m)→(n % 2=0↔((k:Int) - 1 - m) % 2=0):=fun n h=>sN;refine lS 26 [4] ?_;refine cW (fun hc4=>?_) fun hc4=>?_;refine aI 4 [1] ?_;refine aQ (bW T.one150 U sO) ?_;refine aC 3 [] ?_;refine aQ (bP (cs:=[_,_,_,_,_]) T.st91 U U U) ?_;rotate_left;refine aI 5 [4] ?_;apply bX 4 141 145 U;intro hg1;refine aC 3 [] ?_;refine aQ (nE U U sN) ?_;refine aC 3 [] ?_;exact dB 4 0;intro hg1;refine aC 4 [] ?_;exact dB 4 0;refine bB 3 [] ?_;refine cW (fun hc5=>?_) fun hc5=>?_;refine aI 1 [] ?_;refine aQ (bW T.one150 U sO) ?_;refine aC 3 [] ?_;refine aQ (bP (cs:=[_,_,_,_,_]) T.st91 U U U) ?_;rotate_left;refine bI 8 [4] ?_;refine cW (fun hc6=>?_) fun hc6=>?_;refine aI 1 [] ?_;refine aQ (bW T.one150 U sO) ?_;refine aC 3 [] ?_;refine aQ (bP (cs:=[_,_,_,_,_]) T.st91 U U U) ?_;rotate_left;refine aI 8 [4] ?_;rotate_left
   · skip;refine fE (fst:=[]) (cap:=[.pointer (some ⟨b2,0,none⟩)]) 1 U T.fn88 U U (US _ b2 _ _ o6 d6 (ce++Ks ((k:Int)+i) fr (l[(i:Int).toNat]?.getD default).a) j6 a1 (os++[((k:Int)+i)]).length c1 3 ((k:Int)+i) ((k:Int)+i) (m:Int) 0 sY how6 EZ) (sS ⟨U,U,F9⟩) fun v7 G7 Ho7 hle7 hp=>?_;obtain ⟨rfl,rfl,o7,d7,j7,how7,rfl⟩:=hp;refine aS 9 [] ?_;refine cJ 14 U (show _=Value.int .i64 ((m:Int) - 1) from U) ?_;rw [show GR ((k:Int)+i) ((k:Int)+l.length) (l[(i:Int).toNat]?.getD default).b (m:Int) (k - 1 - m)=[⟨3,((k:Int)+i),((k:Int)+i),(m:Int),0⟩] from GY (.inl sO)] at hce;refine cK ((m,((k:Int)+i),(ce++Ks ((k:Int)+i) fr (l[(i:Int).toNat]?.getD default).a++[⟨3,((k:Int)+i),((k:Int)+i),(m:Int),0⟩],o7,d7,j7))) ?_ ?_
     · refine ⟨by omega,?_,how7,by simp only [aB,bA,cE];omega⟩;rw [←hce];simp only [aR]
     show m<m+1;omega
   · skip;refine fE (fst:=[]) (cap:=[.pointer (some ⟨b2,0,none⟩)]) 1 U T.fn88 U U (US _ b2 _ _ o6 d6 (ce++Ks ((k:Int)+i) fr (l[(i:Int).toNat]?.getD default).a) j6 a1 (os++[((k:Int)+i)]).length c1 3 ((k:Int)+i) ((k:Int)+i) (m:Int) 0 sY how6 EZ) (sS ⟨U,U,F9⟩) fun v7 G7 Ho7 hle7 hp=>?_;obtain ⟨rfl,rfl,o7,d7,j7,how7,rfl⟩:=hp;refine aS 9 [] ?_;refine cJ 14 U (show _=Value.int .i64 ((m:Int) - 1) from U) ?_;rw [show GR ((k:Int)+i) ((k:Int)+l.length) (l[(i:Int).toNat]?.getD default).b (m:Int) (k - 1 - m)=[⟨3,((k:Int)+i),((k:Int)+i),(m:Int),0⟩] from GY (.inr sN)] at hce;refine cK ((m,((k:Int)+i),(ce++Ks ((k:Int)+i) fr (l[(i:Int).toNat]?.getD default).a++[⟨3,((k:Int)+i),((k:Int)+i),(m:Int),0⟩],o7,d7,j7))) ?_ ?_
     · refine ⟨by omega,?_,how7,by simp only [aB,bA,cE];omega⟩;rw [←hce];simp only [aR]
     show m<m+1;omega
   · skip;refine fE (fst:=[]) (cap:=[.pointer (some ⟨b2,0,none⟩)]) 1 U T.fn88 U U (US _ b2 _ _ o6 d6 (ce++Ks ((k:Int)+i) fr (l[(i:Int).toNat]?.getD default).a) j6 a1 (os++[((k:Int)+i)]).length c1 4 ((k:Int)+i) ((k:Int)+i) (m:Int) 0 sY how6 EZ) (sS ⟨U,U,F9⟩) fun v7 G7 Ho7 hle7 hp=>?_;obtain ⟨rfl,rfl,o7,d7,j7,how7,rfl⟩:=hp;refine aS 9 [] ?_;refine cJ 14 U (show _=Value.int .i64 ((m:Int) - 1) from U) ?_;rw [show GR ((k:Int)+i) ((k:Int)+l.length) (l[(i:Int).toNat]?.getD default).b (m:Int) (k - 1 - m)=[⟨4,((k:Int)+i),((k:Int)+i),(m:Int),0⟩] from UU (fun h=>by first | omega | (rcases h with h | h <;> omega)) sO] at hce;refine cK ((m,((k:Int)+i),(ce++Ks ((k:Int)+i) fr (l[(i:Int).toNat]?.getD default).a++[⟨4,((k:Int)+i),((k:Int)+i),(m:Int),0⟩],o7,d7,j7))) ?_ ?_
     · refine ⟨by omega,?_,how7,by simp only [aB,bA,cE];omega⟩;rw [←hce];simp only [aR]
     show m<m+1;omega
   refine fO 126 U (show _=Value.int .i64 ((k - 1 - m:Nat):Int) by rw [hnm]) ?_;have hb9:(l[(i:Int).toNat]?.getD default).b≠0:=by assumption
   refine fE (fst:=[]) (cap:=[.pointer (some ⟨b3,0,none⟩)]) 1 U T.fn89 U U (kg _ sO b2 b3 _ _ o6 d6 (ce++Ks ((k:Int)+i) fr (l[(i:Int).toNat]?.getD default).a) j6 a1 (os++[((k:Int)+i)]).length c1 ((k:Int)+l.length) (m:Int) (l[(i:Int).toNat]?.getD default).b (k - 1 - m) sN hb3 how6 (by simp only [aB];omega)) (sS ⟨U,U,F9⟩) fun v7 G7 Ho7 hle7 hp=>?_;obtain ⟨rfl,rfl,o7,d7,j7,how7,rfl⟩:=hp;refine aL 3 [] ?_;refine aQ (bW T.one150 U sO) ?_;refine aC 3 [] ?_;refine aQ (bP (cs:=[_,_,_,_,_]) T.st91 U U U) ?_;refine fE (fst:=[]) (cap:=[.pointer (some ⟨b2,0,none⟩)]) 1 U T.fn88 U U (US _ b2 _ _ o7 d7 (ce++Ks ((k:Int)+i) fr (l[(i:Int).toNat]?.getD default).a++Kd ((k:Int)+l.length) (l[(i:Int).toNat]?.getD default).b (m:Int) (k - 1 - m)) j7 a1 (os++[((k:Int)+i)]).length c1 3 ((k:Int)+i) ((k:Int)+i) ((k:Int)+l.length) 0 sY how7 EZ) (sS ⟨U,U,F9⟩) fun v8 G8 Ho8 hle8 hp=>?_;obtain ⟨rfl,rfl,o8,d8,j8,how8,rfl⟩:=hp;refine aS 9 [] ?_;refine cJ 14 U (show _=Value.int .i64 ((m:Int) - 1) from U) ?_;rw [show GR ((k:Int)+i) ((k:Int)+l.length) (l[(i:Int).toNat]?.getD default).b (m:Int) (k - 1 - m)=Kd ((k:Int)+l.length) (l[(i:Int).toNat]?.getD default).b (m:Int) (k - 1 - m)++[⟨3,((k:Int)+i),((k:Int)+i),((k:Int)+l.length),0⟩] from UW (fun h=>by first | omega | (rcases h with h | h <;> omega)) sO] at hce;refine cK ((m,((k:Int)+i),(ce++Ks ((k:Int)+i) fr (l[(i:Int).toNat]?.getD default).a++Kd ((k:Int)+l.length) (l[(i:Int).toNat]?.getD default).b (m:Int) (k - 1 - m)++[⟨3,((k:Int)+i),((k:Int)+i),((k:Int)+l.length),0⟩],o8,d8,j8))) ?_ ?_
   · refine ⟨by omega,?_,how8,by simp only [aB,bA,cE];omega⟩;rw [←hce];simp only [aR]
   show m<m+1;omega
 have hin:i=l.length:=sN;have hcd':cd=(evP k l).code:=by rw [hcd,hin,aZ];rfl
 have hos':os=(evP k l).outs:=by rw [hos,hin];rfl
 refine bE 20 [0,1,0] ?_;refine jK ?_;refine cX 2 U hown (fun G8 hle8 hA8=>cX 3 U hoo (fun G9 hle9 hA9=>?_));refine gZ (.inr U) (Ho:=[]) U (.agg 0 U U T.agg26) (.tmp U) F9 ?_;clear hcd hos;subst hcd' hos';exact ⟨o,oo,d,od,U,hA8.up hle9,hA9,U⟩
end
end Go.Proofs.YtkdelpdbjfpgmaaGreatDoor
namespace Go.Sl
open Go
section
variable {P:Program} {B:Bs} {e:A9} {D:List Deferred} {H H':Hp} {G:A3}
theorem B3.ren {w:World} (hh:B3 H G w) (σ:Nat→Nat) (hσ:∀ t x,H'.get t=some x→H.get (σ t)=some x) (hi:∀ t t' x y,H'.get t=some x→H'.get t'=some y→σ t=σ t'→t=t'):B3 H' G w:=
 ⟨fun t b o x=>hh.own _ b o (hσ _ _ x),fun t t' b o o' x y=>hi t t' _ _ x y (hh.one _ _ b _ _ (hσ _ _ x) (hσ _ _ y)),hh.imm,fun t b o x=>hh.off _ b o (hσ _ _ x)⟩
theorem A6.ren {a:Act} {w:World} (hh:A6 B ⟨e,D,H,G⟩ a w) (σ:Nat→Nat) (hσ:∀ t x,H'.get t=some x→H.get (σ t)=some x) (hi:∀ t t' x y,H'.get t=some x→H'.get t'=some y→σ t=σ t'→t=t'):A6 B ⟨e,D,H',G⟩ a w:=
 ⟨hh.size,hh.defers,hh.env,hh.mem.ren σ hσ hi,hh.upd,fun t b o x=>hh.mine _ b o (hσ _ _ x),hh.le,hh.new⟩
end
abbrev Hp.two (x y:Option Nat×Obj) (T:Hp):Hp:=(0,x) :: (1,y) :: T.shift 2
theorem Ie (x y:Option Nat×Obj) (T:Hp) (t:Nat):(Hp.two x y T).get t=if t=0 then some x else if t=1 then some y else T.get (t - 2):=by
 unfold Hp.two;rw [bH];by_cases h0:0=t
 · subst h0;rw [aF rfl,aF rfl]
 rw [aD h0,aD (lO h0),bH];by_cases h1:1=t
 · subst h1;rw [aF rfl,aF rfl]
 rw [aD h1,aD (lO h1),gI,aF (by omega)]
section
variable {P:Program} {ops:Array Oper} {rest:List Oper} {B:Bs} {e:A9} {D:List Deferred} {H:Hp} {G:A3} {K:Act→World→Prop}
 {ty:TypeId} {pos:String} {after:Array Edge} {d:Nat}
theorem JX {g:Operand} {l:Nat} {xs:Array Operand} {ats:Array TypeId} {vs:List Value} {A Hi:Hp} {x1 x2:Option Nat×Obj} {post:Value→A3→Hp→Prop} (k r1 r2:Nat)
 (hn:Nat.ble (d+1) B.n=true) (hg:e.ev g=some (.func (.yield l) #[] #[])) (hx:e.evs xs.toList=some vs) (h1:H.get r1=some x1) (h2:H.get r2=some x2) (hr:(Nat.ble (r1+1) k && Nat.ble (r2+1) k && !Nat.beq r1 r2)=true)
 (hH:H.sub A) (hA1:A.get r1=none) (hA2:A.get r2=none) (ht:H.tl k Hi) (hA:Bd k A=true)
 (hF:C3 P l vs G (Hp.two x1 x2 Hi) post) (h:∀ v G' Ho,G.le G'→post v G' Ho→Wl P ops rest B ⟨(d,v) :: e,D,A++Ho.shift k,G'⟩ K) :
 Wl P ops (⟨some d,.call { callee:=.value g,args:=xs,argTypes:=ats },ty,pos,after,none⟩ :: rest) B ⟨e,D,H,G⟩ K:=by
 simp only [aU,sA] at hr;have hr1:=dF hr.1.1;have hr2:=dF hr.1.2;have hr3:r1≠r2:=fun q=>by subst q;have:=hr.2;simp at this
 intro a w hh;refine Wl.yield (H:=A++(Hp.two x1 x2 Hi).shift k) k hn hg hx U hA hF h a w (hh.ren (fun t=>if t<k then t else if t=k then r1 else if t=k+1 then r2 else t - 2) (fun t x hx=>?_) (fun t t' x y hx hy he=>?_))
 · rw [fB] at hx;by_cases htk:t<k
   · simp only [aF htk];rw [gI,aD (by omega),Option.or_none] at hx;exact lB hH t x hx
   rw [qH hA t sN,iR,gI,aF (by omega),Ie] at hx;simp only [aD htk];by_cases h0:t=k
   · rw [aF (by omega)] at hx;rw [aF h0,←hx];exact h1
   rw [aD (by omega)] at hx;rw [aD h0];by_cases h9:t=k+1
   · rw [aF (by omega)] at hx;rw [aF h9,←hx];exact h2
   rw [aD (by omega)] at hx;rw [aD h9];refine ht _ _ ?_;rw [gI,aF (by omega),←hx];congr 1;omega
 have hlow:∀ u z,u<k→Hp.get (A++(Hp.two x1 x2 Hi).shift k) u=some z→u≠r1∧u≠r2:=fun u z hu hz=>by
  rw [fB,gI,aD (by omega),Option.or_none] at hz;exact ⟨fun q=>by (subst q;rw [hA1] at hz;cases hz),fun q=>by (subst q;rw [hA2] at hz;cases hz)⟩
 have q1:=hlow t x;have q2:=hlow t' y;by_cases c1:t<k
 · have p1:=q1 c1 hx;by_cases c2:t'<k
   · simpa [c1,c2] using he
   simp only [aF c1,aD c2] at he;split at he <;> rename_i c3
   · omega
   split at he <;> omega
 by_cases c2:t'<k
 · have p2:=q2 c2 hy;simp only [aD c1,aF c2] at he;split at he <;> rename_i c3
   · omega
   split at he <;> omega
 simp only [aD c1,aD c2] at he;split at he <;> rename_i c3
 · split at he <;> rename_i c4
   · omega
   split at he <;> omega
 split at he <;> rename_i c4
 · split at he <;> rename_i c5
   · omega
   split at he <;> omega
 split at he <;> rename_i c5
 · omega
 split at he <;> omega
abbrev pS:=@JX
end
section
variable {P:Program} {B:Bs} {e:A9} {D:List Deferred} {H:Hp} {G:A3}
theorem Us {ι:Type} {r:Option Nat} {c:Code} {Q:Exit→Act→World→Prop} (k:Nat) (I:ι→A9×Hp) (T:ι→Hp) (g:ι→A3) (φ:ι→Prop) (μ:ι→Nat) (i0:ι) (h0:φ i0) (hg:G=g i0)
 (he:e.sub (I i0).1) (hH:H.sub (I i0).2) (ht:H.tl k (T i0))
 (hb:∀ i,φ i→Wc r P c B ⟨(I i).1,D,(I i).2++(T i).shift k,g i⟩ (Exit.then (Ee B (fun i=>⟨(I i).1,D,(I i).2++(T i).shift k,g i⟩) φ μ (μ i)) Q)):Wc r P (.loop c) B ⟨e,D,H,G⟩ Q:=
 Iw (fun i=>⟨(I i).1,D,(I i).2++(T i).shift k,g i⟩) φ μ i0 h0 (fun _ _ h=>by rw [hg] at h;exact h.cutT he hH ht) hb
theorem If {ι:Type} {I:ι→A9×Hp} {T:ι→Hp} {g:ι→A3} {k:Nat} {φ:ι→Prop} {μ:ι→Nat} {m:Nat} {Q:Exit→Act→World→Prop} (j:ι) (hφ:φ j) (hμ:μ j<m) (hg:G=g j)
 (he:e.sub (I j).1) (hH:H.sub (I j).2) (ht:H.tl k (T j)):Ar (Exit.then (Ee B (fun i=>⟨(I i).1,D,(I i).2++(T i).shift k,g i⟩) φ μ m) Q) .normal B ⟨e,D,H,G⟩:=
 fun a w hh=>⟨j,hφ,hμ,by rw [hg] at hh;exact hh.cutT he hH ht⟩
end
def Ly {β γ:Type} (P:Program) (f:FuncId) (caps:List Value) (G:A3) (enc:β→γ→List Value) (o1 o2:β→γ→Option Nat×Obj) (good:β→γ→Prop) (xs:List β):Prop:=
 ∀ (ι:Type) (J:ι→Hp) (inv:Nat→ι→Prop) (stop:ι→Prop) (l:Nat) (i0:ι),inv 0 i0→
  (∀ k x y i,xs[k]?=some x→good x y→inv k i→C3 P l (enc x y) G (Hp.two (o1 x y) (o2 x y) (J i)) (fun v G' Ho=>G'=G∧∃ j,Ho=J j∧((v=.bool true∧inv (k+1) j)∨(v=.bool false∧stop j))))→
  Does P f (.func (.yield l) #[] #[] :: caps) G (J i0) (fun v G' Ho=>G'=G∧∃ j,Ho=J j∧(inv xs.length j∨stop j))
section stmt
variable {P:Program} {B:Bs} {e:A9} {D:List Deferred} {H:Hp} {G:A3}
variable {β γ ι:Type} {Q:Exit→Act→World→Prop} {f:FuncId} {caps:List Value} {enc:β→γ→List Value} {o1 o2:β→γ→Option Nat×Obj} {good:β→γ→Prop} {xs:List β} {ps:List Nat} {assign body:Code} {g:Operand}
theorem Sy (tl td u1 u2:Nat) (I:ι→Hp) (inv:Nat→ι→Prop) (stop:Code→ι→Prop) (i0:ι) (hg:e.ev g=some (.func (.func f) #[] caps.toArray)) (hf:tO P f)
 (hps:∀ x y,(enc x y).length=ps.length) (hpb:ps.all (fun t=>Nat.ble (t+1) B.n)=true) (hit:Ly P f caps G enc o1 o2 good xs) (h0:inv 0 i0) (hH:∀ t x,(I i0).get t=some x→H.get t=some x)
 (htl:Nat.beq tl td=false∧∀ i,(I i).get tl=none) (hu:Nat.beq u1 u2=false)
 (hround:∀ k x y i l dd q w0,xs[k]?=some x→good x y→inv k i→Wc (some l) P assign ⟨B.n,w0,(Hp.two (o1 x y) (o2 x y) (RJ tl td q l dd (I i) none)).has,G⟩ ⟨A9.ps ps (enc x y) e,[],(u1,o1 x y) :: (u2,o2 x y) :: RJ tl td q l dd (I i) none,G⟩
  (Pb P l body (B7 G (Hp.two (o1 x y) (o2 x y) (RJ tl td q l dd (I i) none)) w0 (fun v G' Ho=>G'=G∧∃ j:ι×Option Code,Ho=RJ tl td q l dd (I j.1) j.2∧((v=.bool true∧j.2=none∧inv (k+1) j.1)∨(v=.bool false∧∃ c,j.2=some c∧stop c j.1))))))
 (hdone:∀ j dd,inv xs.length j→Ar Q .normal B ⟨e,mark dd :: D,(td,some dd,.deferred (some [])) :: I j,G⟩)
 (hstop:∀ j dd c,stop c j→Wc none P c B ⟨e,mark dd :: D,(td,some dd,.deferred (some [])) :: I j,G⟩ Q) :
 Wc none P (.rangeFunc g ps.toArray assign body) B ⟨e,D,H,G⟩ Q:=by
 intro a w hh;refine wpIn_rangeFunc fun fn _=>?_;obtain ⟨q,hq⟩:∃ q:Loop,q={ state:=.ready,pending:=none,fn,tmps:=a.tmps,params:=ps.toArray,assign,body,defers:=w.heap.size }:=⟨_,U⟩
 obtain ⟨fnn,hf1,hf2,hf3⟩:=hf;obtain ⟨ht3,htI⟩:=htl;have hne:tl≠td:=fun h=>by subst h;simp at ht3
 have hune:u1≠u2:=fun h=>by subst h;simp at hu
 have hA:=hh.alloc td (.deferred (some []));have hB:=hA.alloc tl (C2 q .ready none);rw [World.size_alloc] at hB;refine ⟨w.heap.size+1,[mark w.heap.size],(w.alloc (.deferred (some []))).alloc (C2 q .ready none),{ target:=.fn (.func f) caps.toArray,args:=#[.func (.yield (w.heap.size+1)) #[] #[]] },(w.alloc (.deferred (some []))).alloc (C2 q .ready none),f,
  (.func (.yield (w.heap.size+1)) #[] #[] :: caps).toArray,(w.alloc (.deferred (some []))).alloc (C2 q .ready none),?_,?_,?_,?_,fun h=>by simp [FF] at h,?_⟩
 · have:=run_enterLoop_outer (P:=P) (w:=w) fn a.tmps ps.toArray assign body;rw [hq];exact this
 · have hev:Act.eval a g=.func (.func f) #[] caps.toArray:=hh.eval hg;simp only [resolve,hev];simp [go_sem]
 · intro f' hf';trivial
 · simp [invoke,Ak _ _ hf1 hf2 hf3]
 have hB':A6 B ⟨e,D,RJ tl td q (w.heap.size+1) w.heap.size (I i0) none,G⟩ a ((w.alloc (.deferred (some []))).alloc (C2 q .ready none)):=by
  refine hB.weaken (fun _ _ h=>h) fun t x hx=>?_;rw [bH] at hx ⊢;split at hx <;> rename_i h1
  · rw [aF h1];exact hx
  rw [aD h1];rw [bH] at hx ⊢;split at hx <;> rename_i h2
  · rw [aF h2];exact hx
  rw [aD h2];exact hH t x hx
 have hC:=hit (ι×Option Code) (fun s=>RJ tl td q (w.heap.size+1) w.heap.size (I s.1) s.2) (fun k j=>j.2=none∧inv k j.1) (fun j=>∃ c,j.2=some c∧stop c j.1) (w.heap.size+1) (i0,none) ⟨U,h0⟩ (fun k x y i hx hgd hi=>?_)
 · refine Ay.2 ((hC _ hB'.mem).mono fun ex w' ⟨v,G',Ho,h1,h2,h3,h4,h5,h6,h7,j,h8,h9⟩=>?_);subst h1 h7;have hcl:=hB'.called 0 (Hi:=RJ tl td q (w.heap.size+1) w.heap.size (I i0) none) (fun t x hx=>by rw [cR];exact hx) h2 h3 h4 h5 h6;have hD:A6 B ⟨e,D,Ho,G'⟩ a w':=hcl.weaken (fun _ _ h=>h) (fun t x hx=>by
    rw [fB,gI,aF (aM _),nF,hx];rfl)
   rw [h8] at hD;obtain ⟨ji,jp⟩:=j;have hget:Hp.get (RJ tl td q (w.heap.size+1) w.heap.size (I ji) jp) tl=some (some (w.heap.size+1),C2 q (ZP jp) jp):=by
    rw [bH,aF rfl]
   have hbk:=hD.mem.own tl _ _ hget;have hlt:=(eZ.1 hbk).1;have hE:=hD.set hget (o':=C2 q .exhausted jp) (Be w' _ _) (kT hlt);have hF:A6 B ⟨e,D,(td,some w.heap.size,.deferred (some [])) :: I ji,G'⟩ a (w'.putObj (w.heap.size+1) (C2 q .exhausted jp)):=by
    refine hE.weaken (fun _ _ h=>h) fun t x hx=>?_;rw [bH] at hx ⊢;have htn:tl≠t:=fun h=>by
     subst h;rw [aD (lO hne)] at hx;have:=htI ji;rw [hx] at this;cases this
    rw [aD htn,bH,aD htn,bH];exact hx
   have hG:A6 B ⟨e,mark w.heap.size :: D,(td,some w.heap.size,.deferred (some [])) :: I ji,G'⟩ { a with defers:=[mark w.heap.size]++a.defers } (w'.putObj (w.heap.size+1) (C2 q .exhausted jp)):=
    ⟨hF.size,by show [mark w.heap.size]++a.defers=_;rw [hF.defers];rfl,hF.env,hF.mem,hF.upd,hF.mine,hF.le,hF.new⟩
   have hend:(Instr.endLoop (w.heap.size+1)).run P w'=.ok jp (w'.putObj (w.heap.size+1) (C2 q .exhausted jp)):=run_endLoop hbk (by cases jp <;> simp [ZP]);refine ⟨jp,_,hend,?_⟩;rcases h9 with ⟨hj,hi⟩ | ⟨c,hj,hs⟩
   · have hj':jp=none:=hj;subst hj';exact hdone ji _ hi _ _ hG
   have hj':jp=some c:=hj;subst hj';exact hstop ji _ c hs _ _ hG
 obtain ⟨i,ip⟩:=i;obtain ⟨hip,hi⟩:=hi;have hip':ip=none:=hip;subst hip';intro w2 hw2;have hl2:w2.heap[w.heap.size+1]?=some (C2 q .ready none):=hw2.own (tl+2) _ _ (by rw [Ie,aD (by omega),aD (by omega),jM,bH,aF rfl];rfl);have hq2:q.params=ps.toArray∧q.tmps=a.tmps∧q.assign=assign∧q.body=body:=by rw [hq];exact ⟨U,U,U,U⟩
 have hy:=run_yield (P:=P) (args:=(enc x y).toArray) hl2 (by show _=q.params.size;rw [hq2.1];simp [hps x y]);refine ⟨_,_,_,_,hy,roundIn_of_wpIn (F:=Fence.wide) (n:=0) F9 ?_⟩;have hz:=Eo ps (enc x y) e a.tmps hh.size hh.env hpb;have hr:=hround k x y i (w.heap.size+1) w.heap.size q w2 hx hgd hi;have hhold0:A6 ⟨B.n,w2,(Hp.two (o1 x y) (o2 x y) (RJ tl td q (w.heap.size+1) w.heap.size (I i) none)).has,G⟩ ⟨A9.ps ps (enc x y) e,[],Hp.two (o1 x y) (o2 x y) (RJ tl td q (w.heap.size+1) w.heap.size (I i) none),G⟩
  { tmps:=(q.params.zip (enc x y).toArray).foldl (fun tmps (t,a)=>tmps.setIfInBounds t a) q.tmps,defers:=[] } w2:=by
  refine ⟨?_,U,?_,hw2,mR _ _,fun t b o hx=>.inr ⟨t,o,hx⟩,bN _,fun b h1 h2=>(h1 h2).elim⟩
  · show ((q.params.zip (enc x y).toArray).foldl _ q.tmps).size=B.n;rw [hq2.1,hq2.2.1];have:=hz.1;simpa using this
  intro i v hv;show ((q.params.zip (enc x y).toArray).foldl _ q.tmps)[i]?=some v;rw [hq2.1,hq2.2.1];have:=hz.2 i v hv;simpa using this
 have hhold:=hhold0.ren (H':=(u1,o1 x y) :: (u2,o2 x y) :: RJ tl td q (w.heap.size+1) w.heap.size (I i) none) (fun t=>if t=u1 then 0 else if t=u2 then 1 else t+2) (fun t z hz=>by
  rw [Ie];rw [bH] at hz;by_cases c1:t=u1
  · rw [aF c1.symm] at hz;rw [aF c1,aF rfl];exact hz
  rw [aD (lO c1),bH] at hz;by_cases c2:t=u2
  · rw [aF c2.symm] at hz;rw [aD c1,aF c2,aD (by decide),aF rfl];exact hz
  rw [aD (lO c2)] at hz;rw [aD c1,aD c2,aD (by omega),aD (by omega),jM];exact hz) (fun t t' z z' _ _ he=>by
  by_cases c1:t=u1
  · rw [aF c1] at he;by_cases c2:t'=u1
    · omega
    rw [aD c2] at he;split at he <;> omega
  rw [aD c1] at he;by_cases c2:t'=u1
  · rw [aF c2] at he;split at he <;> omega
  rw [aD c2] at he;split at he <;> split at he <;> omega)
 have h:=hr _ w2 hhold;show q.assign.wpIn (FF (some (w.heap.size+1))) 0 P (Pb P (w.heap.size+1) q.body _) _ _;rw [hq2.2.2.1,hq2.2.2.2];exact h
abbrev mQ:=@Sy
end stmt
section
variable {P:Program} {e:A9} {H:Hp} {G:A3} {ty:TypeId}
theorem UY {t t':TypeId} {x y:Operand} {m n:ByteArray} (hx:e.ev x=some (.string m)) (hy:e.ev y=some (.string n)):Qy P (.binOp .eql t x y t') ty e H G (.bool (m.toList == n.toList)):=fun a w _ _ _ _ hh=>by
 simp [execOp,hh.eval hx,hh.eval hy,binOp,eqGuard,Op.stringOp]
end
end Go.Sl
namespace Go.Proofs.YtkdelpdbjfpgmaaGreatDoor
open Go Go.Sl
theorem Lz (G:A3) (b:Nat) (n m:Int) (sv wv:Value) (hn:0≤n∧n≤1000) (hm:0≤m∧m≤1000) :
 Does Tryz.prog 196 [.pointer (some ⟨b,0,none⟩),.int .i64 m] G [(0,some b,.cells #[.int .i64 n,sv,wv] 267)] (fun v G' Ho=>v=.int .i64 (n+m)∧G'=G∧Ho=[(0,some b,.cells #[.int .i64 n,sv,wv] 267)]):=by
 refine D0 Tryz.func196 Tryz.ntmps196 fun w=>?_;refine bE 17 [0] ?_;refine cH (.inr U) (Ho:=[(0,some b,.cells #[.int .i64 n,sv,wv] 267)]) U (.tmp U) ⟨U,F9⟩ ?_;exact ⟨U,U,U⟩
theorem Ma (G:A3) (b:Nat) (n m:Int) (sv wv:Value) (hn:0≤n∧n≤1000) (hm:0≤m∧m≤1000) :
 Does Tryz.prog 233 [.pointer (some ⟨b,0,none⟩),.int .i64 m] G [(0,some b,.cells #[.int .i64 n,sv,wv] 267)] (fun v G' Ho=>v=.int .i64 (2*n+m)∧G'=G∧Ho=[(0,some b,.cells #[.int .i64 n,sv,wv] 267)]):=by
 refine D0 Tryz.func233 Tryz.ntmps233 fun w=>?_;refine aI 11 [0] ?_;refine aQ (lZ U U sN) ?_;refine aS 6 [] ?_;refine cH (.inr U) (Ho:=[(0,some b,.cells #[.int .i64 n,sv,wv] 267)]) U (.tmp U) ⟨U,F9⟩ ?_;exact ⟨U,U,U⟩
theorem BD (G:A3) (b:Nat) (n:Int) (sv wv:Value) (hn:0≤n∧n≤1000) :
 Does Tryz.prog 231 [.pointer (some ⟨b,0,none⟩)] G [(0,some b,.cells #[.int .i64 n,sv,wv] 267)] (fun v G' Ho=>v=.int .i64 (3*n)∧G'=G∧Ho=[(0,some b,.cells #[.int .i64 n,sv,wv] 267)]):=by
 refine D0 Tryz.func231 Tryz.ntmps231 fun w=>?_;refine aI 11 [0] ?_;refine aQ (lZ U U sN) ?_;refine aS 4 [] ?_;refine cH (.inr U) (Ho:=[(0,some b,.cells #[.int .i64 n,sv,wv] 267)]) U (.tmp U) ⟨U,F9⟩ ?_;exact ⟨U,U,U⟩
theorem kh (G:A3) (b:Nat) (n:Int) (ac:Option Addr) (cc:Nat) (code:List Sl.Instr) (j:List Value) (wa:Option Addr) (wn wc:Nat) (to x c:Int) (e:Nat) (ho:A4 ac cc code j) (hl:(code++Am to x c e).length≤1048576) (hc:-512≤c∧c≤512) (he:e≤1000) :
 Does Tryz.prog 230 [.pointer (some ⟨b,0,none⟩),.int .i64 to,.int .i64 x,.int .i64 c,.int .i64 e] G [(0,some b,.cells #[.int .i64 n,.slice ac code.length cc,.slice wa wn wc] 267),(1,ac.map (·.block),Row 91 code j)]
  (fun v G' Ho=>v=.tuple #[]∧G'=G∧∃ (a':Option Addr) (c':Nat) (j':List Value),A4 a' c' (code++Am to x c e) j'∧Ho=[(0,some b,.cells #[.int .i64 n,.slice a' (code++Am to x c e).length c',.slice wa wn wc] 267),(1,a'.map (·.block),Row 91 (code++Am to x c e) j')]):=by
 have hl0:code.length≤1048576:=by rw [aB] at hl;omega
 refine D0 Tryz.func230 Tryz.ntmps230 fun w=>?_;refine aI 6 [] ?_;apply bX 3 14 17 U;intro hg1;refine aC 5 [] ?_;exact dB 3 0;intro hg1;refine aC 3 [] ?_;exact dB 3 0;refine aC 1 [] ?_;apply dS 3 18 21 U;intro hg1;refine aC 5 [] ?_;exact dB 3 0;intro hg1;refine aC 3 [] ?_;exact dB 3 0;refine aC 1 [] ?_;apply dS 3 22 25 U;intro hg1;refine aC 5 [] ?_;exact dB 3 0;intro hg1;refine aC 3 [] ?_;exact dB 3 0;refine bB 2 [] ?_;refine cW (fun hc1=>?_) fun hc1=>?_;refine aI 6 [] ?_;apply bX 4 28 32 U;intro hg1;refine aC 3 [] ?_;refine aQ (nE U U sN) ?_;refine aC 3 [] ?_;exact dB 4 0;intro hg1;refine aC 4 [] ?_;exact dB 4 0;refine bB 2 [] ?_;refine cW (fun hc2=>?_) fun hc2=>?_;refine aI 10 [] ?_;refine eL 0 U T.fn195 U (Gq _ b n ac cc code j wa wn wc _ _ _ ho hl0) (sS ⟨U,U,F9⟩) fun v1 G1 Ho1 hle1 hp=>?_;obtain ⟨rfl,rfl,a1,d1,j1,ho1,rfl⟩:=hp;refine aS 4 [] ?_;rotate_left;refine aI 8 [] ?_;refine eL 0 U T.fn195 U (Gq _ b n ac cc code j wa wn wc _ _ _ ho hl0) (sS ⟨U,U,F9⟩) fun v1 G1 Ho1 hle1 hp=>?_;obtain ⟨rfl,rfl,a1,d1,j1,ho1,rfl⟩:=hp;refine aS 4 [] ?_;rotate_left;refine bI 17 [] ?_;rotate_left
 · have e1:Am to x c e=sW to x 1:=by unfold Am;rw [aF (by omega),aF (by omega)]
   rw [e1];refine kD zR (Ho:=[(0,some b,.cells #[.int .i64 n,.slice a1 (code++sW to x 1).length d1,.slice wa wn wc] 267),(1,a1.map (·.block),Row 91 (code++sW to x 1) j1)]) U ⟨U,U,F9⟩ ?_;exact ⟨U,U,a1,d1,j1,ho1,U⟩
 · have e1:Am to x c e=sW to x c:=by unfold Am;rw [aF (by omega),aD (by omega)]
   rw [e1];refine kD zR (Ho:=[(0,some b,.cells #[.int .i64 n,.slice a1 (code++sW to x c).length d1,.slice wa wn wc] 267),(1,a1.map (·.block),Row 91 (code++sW to x c) j1)]) U ⟨U,U,F9⟩ ?_;exact ⟨U,U,a1,d1,j1,ho1,U⟩
 have hT0:code++Qg to c x 1 e=code++Am to x c e:=by unfold Am;rw [aD (by omega)]
 generalize code++Am to x c e=Tg at *;refine fT (ι:=Nat×Int×Int×List Sl.Instr×(Option Addr×Nat×List Value)) (fun (t,fr,k,cd,(o,d,q))=>([(40,.int .i64 (t:Int)),(11,.int .i64 k),(10,.int .i64 fr),(39,Go.Value.int Go.IntKind.i64 (↑e:Int)),(0,Go.Value.pointer (Option.some (Go.Addr.mk b 0 Option.none))),(1,Go.Value.int Go.IntKind.i64 to),(3,Go.Value.int Go.IntKind.i64 c)],[(0,some b,.cells #[.int .i64 n,.slice o cd.length d,.slice wa wn wc] 267),(1,o.map (·.block),Row 91 cd q)])) (fun (t,fr,k,cd,(o,d,q))=>t≤e∧(-512≤k∧k≤512)∧cd++Qg to c fr k (e - t)=Tg∧A4 o d cd q) (fun (t,fr,k,cd,(o,d,q))=>e - t) ((0,x,1,code,(ac,cc,j))) (⟨aM _,by omega,hT0,ho⟩) ⟨U,U,U,U,U,U,U,F9⟩ ⟨U,U,F9⟩ fun ⟨t,fr,k,cd,(o,d,q)⟩=>fun hk=>?_;obtain ⟨ht1,ht2,ht3,ht4⟩:=hk;have htl:cd.length≤1048576:=by rw [←ht3,aB] at hl;omega
 have hkc:(k*c).natAbs≤512*512:=by rw [fZ];exact gQ sN sN
 have hkc2:-9223372036854775808≤k*c∧k*c≤9223372036854775807:=sN;have hkc3:-9223372036854775808≤1*c∧1*c≤9223372036854775807:=sN;rcases aK t e with hte | hte
 · have e2:e - t=(e - (t+1))+1:=sN;rw [e2] at ht3;unfold Qg at ht3;refine aI 16 [1] ?_;refine aQ (lZ U U sN) ?_;refine aC 2 [] ?_;apply dS 5 46 51 U;intro hg1;refine aC 5 [] ?_;refine aQ (lZ U U sN) ?_;refine aC 3 [] ?_;exact dB 5 0;intro hg1;refine aC 5 [] ?_;exact dB 5 0;refine bB 2 [] ?_;refine cW (fun hc2=>?_) fun hc2=>?_;refine aI 6 [] ?_;refine eL 0 U T.fn195 U (Gq _ b n o d cd q wa wn wc _ _ _ ht4 htl) (sS ⟨U,U,F9⟩) fun v1 G1 Ho1 hle1 hp=>?_;obtain ⟨rfl,rfl,a1,d1,j1,ho1,rfl⟩:=hp;refine aL 11 [] ?_;refine aQ (lZ U U sN) ?_;refine aS 8 [] ?_;rotate_left;refine aI 5 [] ?_;refine aQ (lZ U U sN) ?_;refine aS 8 [] ?_;rotate_left
   · refine cJ 40 U (show _=Value.int .i64 ((t+1:Nat):Int) from U) ?_;refine cJ 11 U (show _=Value.int .i64 c by rw [dP]) ?_;refine cK ((t+1,to,c,cd++sW to fr k,(a1,d1,j1))) ?_ ?_
     · rw [aF hc2,←aR] at ht3;exact ⟨hte,hc,ht3,ho1⟩
     show e - (t+1)<e - t;omega
   refine cJ 40 U (show _=Value.int .i64 ((t+1:Nat):Int) from U) ?_;refine cK ((t+1,fr,k*c,cd,(o,d,q))) ?_ ?_
   · rw [aD hc2] at ht3;exact ⟨hte,by omega,ht3,ht4⟩
   show e - (t+1)<e - t;omega
 have hte:t=e:=sN;subst hte;rw [iH] at ht3;have ht3:cd++sW to fr k=Tg:=ht3;subst ht3;refine aI 17 [0] ?_;refine eL 0 U T.fn195 U (Gq _ b n o d cd q wa wn wc _ _ _ ht4 htl) (sS ⟨U,U,F9⟩) fun v1 G1 Ho1 hle1 hp=>?_;obtain ⟨rfl,rfl,a1,d1,j1,ho1,rfl⟩:=hp;refine eM ?_;refine kD zR (Ho:=[(0,some b,.cells #[.int .i64 n,.slice a1 (cd++sW to fr k).length d1,.slice wa wn wc] 267),(1,a1.map (·.block),Row 91 (cd++sW to fr k) j1)]) U ⟨U,U,F9⟩ ?_;exact ⟨U,U,a1,d1,j1,ho1,U⟩
section
variable {P:Program} {e:A9} {H:Hp} {G:A3}
theorem Ni {ty:TypeId} {T et:TypeId} {len i:Nat} {x y:Operand} {cs:List Value} {v:Value} (hT:P.underlying T=some (.array len et)) (h1:P.plainKey et=true) (hs:(P.info? et).map (·.size)=some 1)
 (hx:e.ev x=some (.agg cs.toArray)) (hy:e.ev y=some (.int .i64 (i:Int))) (hi:i<len) (hv:cs[i]?=some v):Qy P (.index T x y) ty e H G v:=fun a w _ _ _ _ hh=>by
 have hp:(part et cs.toArray i).run P w=.ok v w:=by
  unfold Program.plainKey at h1;cases hu:P.underlying et with
  | none=>simp [hu] at h1
  | some d=>cases d <;> simp [hu] at h1 <;> simp [part,isAgg,cT hu,hv,Result.andThen]
 have hsz:=Go.Sl.run_sizeOf (P:=P) w hs;have h2:(0:Int)≤(i:Int)∧(i:Int)<(len:Int):=sN;simp only [execOp,hh.eval hx,hh.eval hy,Instr.index,asIntOf,dA,dN,bK,cT hT];rw [aF h2];simp only [dA,hsz,bK,aE,Nat.mul_one,hp,dN]
end
theorem PP:Tryz.prog.underlying 145=some (.array 2 3):=sR
theorem WQ:Tryz.prog.plainKey 3=true:=sR
theorem dg:(Tryz.prog.info? 3).map (·.size)=some 1:=sR
theorem Mb (a b:Int):∀ (n k j:Nat),k≤j→j<OU a b n k→Fb a b (j:Int)=false∧Fb a b (-(j:Int))=false
 | 0,k,j,h1,h2=>by unfold OU at h2;omega
 | n+1,k,j,h1,h2=>by
   unfold OU at h2;split at h2
   · omega
   rename_i hh;by_cases hjk:j=k
   · subst hjk;cases h3:Fb a b (j:Int) <;> cases h4:Fb a b (-(j:Int)) <;> simp [h3,h4] at hh ⊢
   exact Mb a b n (k+1) j sN h2
theorem YQ (G:A3) (x y:Int) (hn:near x y) (h0:¬(x=0∧y=0)) :
 Does Tryz.prog 192 [.agg #[.int .i64 x,.int .i64 y]] G [] (fun v G' Ho=>v=.tuple #[.int .i64 (Int.gcd x y),.int .i64 (bezS x y),.int .i64 (bezT x y),.int .i64 0]∧G'=G∧Ho=[]):=by
 have hn2:=hn;unfold near at hn2;refine D0 Tryz.func192 Tryz.ntmps192 fun w=>?_;obtain ⟨hb1,hb2,hb3,hb4⟩:=Ft hn h0;have q1:=xE x (Int.gcd x y);have hg0:0<Int.gcd x y:=Nat.pos_of_ne_zero fun h1=>h0 (Int.gcd_eq_zero_iff.mp h1);have hg16:Int.gcd x y≤16:=by
  by_cases ha:x=0
  · have:=rK sN (show Int.gcd x y ∣ y.natAbs from Nat.gcd_dvd_right _ _);omega
  have:=rK sN (show Int.gcd x y ∣ x.natAbs from Nat.gcd_dvd_left _ _);omega
 refine aI 2 [] ?_;refine dV 0 fun b1=>?_;refine aL 12 [0,0] ?_;refine mO U T.fn227 U (az _ _ _ sN sN) ?_;refine aL 8 [0] ?_;refine mO U T.fn72 U (c72 _ _ _) ?_;refine aQ (fP U) ?_;refine bB 3 [] ?_;refine cW (fun hc1=>?_) fun hc1=>?_;refine bE 11 [] ?_;refine Ns (.inr U) (Ho:=Hp.only _ []) U (.tmp U) (.tmp U) (.tmp U) (.tmp U) (aV _ _) ?_;rotate_left;refine bI 16 [0,0] ?_;refine cW (fun hc2=>?_) fun hc2=>?_;refine dJ ?_;refine gM [0] [] T.mixed U ?_;refine eY 0 [] sR U U (dD U) ?_;refine eY 1 [] sR U U (fX T.fa52_0 U) ?_;refine eY 2 [0] sR U U (kU 0 T.one3 U U U) ?_;refine eY 3 [] sR U U (dD U) ?_;refine eY 4 [] sR U U (oH U U sN sN) ?_;refine eY 5 [] sR U U (jV U) ?_;refine eY 6 [] sR U U (jV U) ?_;refine eY 7 [] sR U U (jV U) ?_;refine eY 8 [] sR U U (jV U) ?_;refine iN sR ⟨U,F9⟩ wJ ?_;refine eE 4 [] ?_;refine Ns (.inr U) (Ho:=Hp.only _ []) U (.tmp U) (.tmp U) (.tmp U) (.tmp U) (aV _ _) ?_;rotate_left;refine bI 9 [] ?_;rotate_left
 · exact absurd hn hc1
 · refine ⟨?_,U,U⟩;unfold bezS bezT;rw [aF hc2,aF hc2]
 refine gX (ι:=Nat) (fun k=>([(7,.int .i64 (k:Int)),(6,Go.Value.int Go.IntKind.i64 (↑(Int.gcd x y):Int)),(1,Go.Value.pointer (Option.some (Go.Addr.mk b1 0 Option.none)))],[(0,Option.some b1,Go.Obj.cells #[Go.Value.int Go.IntKind.i64 x,Go.Value.int Go.IntKind.i64 y] 52)])) (fun k=>k≤Cw x y) (fun k=>Cw x y+1 - k) (0) (aM _) fun k=>fun (hk:k≤Cw x y)=>?_;have hm1:((k:Int)*x).natAbs≤15*16:=by rw [fZ];exact gQ sN sN
 have hm2:(-(k:Int)*x).natAbs≤15*16:=by rw [fZ];exact gQ sN sN
 have hm3:-9223372036854775808≤(k:Int)*x∧(k:Int)*x≤9223372036854775807:=sN;have hm4:-9223372036854775808≤-(k:Int)*x∧-(k:Int)*x≤9223372036854775807:=sN;refine aI 6 [] ?_;refine aQ (qX U sN) ?_;refine aQ (Ky (cs:=[_,_]) T.ar145 U U U) ?_;refine bB 4 [] ?_;refine gX (ι:=Nat) (fun i=>([(37,.int .i64 (i:Int)),(7,.int .i64 (k:Int)),(36,Go.Value.agg #[Go.Value.int Go.IntKind.i64 (↑k:Int),Go.Value.int Go.IntKind.i64 (-(↑k:Int))]),(6,Go.Value.int Go.IntKind.i64 (↑(Int.gcd x y):Int)),(1,Go.Value.pointer (Option.some (Go.Addr.mk b1 0 Option.none)))],[(0,Option.some b1,Go.Obj.cells #[Go.Value.int Go.IntKind.i64 x,Go.Value.int Go.IntKind.i64 y] 52)])) (fun i=>i≤2∧(1≤i→Fb x y (k:Int)=false)∧(2≤i→Fb x y (-(k:Int))=false)) (fun i=>2 - i) (0) (⟨aM _,fun h=>absurd h sN,fun h=>absurd h sN⟩) fun i=>fun hk=>?_;obtain ⟨hi1,hi2,hi3⟩:=hk;have hcase:i=0∨i=1∨i=2:=sN;have q2:=xE ((Int.gcd x y:Int) - (k:Int)*x) y;have q3:=xE ((Int.gcd x y:Int) - -(k:Int)*x) y;have hit:∀ s:Int,Fb x y s=true↔((Int.gcd x y:Int) - s*x).tmod y=0:=fun s=>by unfold Fb;rw [beq_iff_eq]
 rcases hcase with hi | hi | hi
 · subst hi;refine aI 13 [1] ?_;refine aQ (Ni (i:=0) (cs:=[.int .i64 (k:Int),.int .i64 (-(k:Int))]) PP WQ dg U U sY U) ?_;refine aL 9 [0] ?_;refine aQ (lZ U U sN) ?_;refine aC 3 [0] ?_;refine aQ (sD U U sN) ?_;refine bB 3 [] ?_;refine cW (fun hc3=>?_) fun hc3=>?_;refine dJ ?_;refine gM [0] [] T.mixed U ?_;refine eY 0 [] sR U U (dD U) ?_;refine eY 1 [] sR U U (dD U) ?_;refine eY 2 [] sR U U (dD U) ?_;refine eY 3 [] sR U U (dD U) ?_;refine eY 4 [] sR U U (fX T.fa52_0 U) ?_;refine eY 5 [0] sR U U (kU 0 T.one3 U U U) ?_;refine eY 6 [] sR U U (lZ U U sN) ?_;refine eY 7 [] sR U U (Qy.sub U U sN) ?_;refine eY 8 [] sR U U (fX T.fa52_1 U) ?_;refine eY 9 [0] sR U U (kU 0 T.one3 U U U) ?_;refine eY 10 [] sR U U (oH U U sN sN) ?_;refine eY 11 [] sR U U (jV U) ?_;refine eY 12 [] sR U U (jV U) ?_;refine eY 13 [] sR U U (jV U) ?_;refine eY 14 [] sR U U (jV U) ?_;refine iN sR ⟨U,F9⟩ wJ ?_;refine eE 10 [] ?_;refine Ns (.inr U) (Ho:=Hp.only _ []) U (.tmp U) (.tmp U) (.tmp U) (.tmp U) (aV _ _) ?_;rotate_left;refine bE 7 [] ?_;rotate_left
   · have hkk:k=Cw x y:=by
      rcases aK k (Cw x y) with h | h
      · have:=(Mb x y 16 0 k (aM _) h).1;rw [(hit _).2 hc3] at this;cases this
      omega
     have hs:bezS x y=k:=by unfold bezS;rw [aD hc2,←hkk,aF ((hit _).2 hc3)]
     have ht:bezT x y=((Int.gcd x y:Int) - (k:Int)*x).tdiv y:=by unfold bezT;rw [aD hc2,hs]
     refine ⟨by rw [hs,ht],U,U⟩
   refine cJ 37 U (show _=Value.int .i64 ((1:Nat):Int) from U) ?_;refine cK (1) ?_ ?_
   · refine ⟨by omega,fun _=>?_,fun h=>absurd h sN⟩;cases hh:Fb x y (k:Int)
     · rfl
     exact absurd ((hit _).1 hh) hc3
   show 2 - 1<2 - 0;omega
 · subst hi;refine aI 13 [1] ?_;refine aQ (Ni (i:=1) (cs:=[.int .i64 (k:Int),.int .i64 (-(k:Int))]) PP WQ dg U U sY U) ?_;refine aL 9 [0] ?_;refine aQ (lZ U U sN) ?_;refine aC 3 [0] ?_;refine aQ (sD U U sN) ?_;refine bB 3 [] ?_;refine cW (fun hc3=>?_) fun hc3=>?_;refine dJ ?_;refine gM [0] [] T.mixed U ?_;refine eY 0 [] sR U U (dD U) ?_;refine eY 1 [] sR U U (dD U) ?_;refine eY 2 [] sR U U (dD U) ?_;refine eY 3 [] sR U U (dD U) ?_;refine eY 4 [] sR U U (fX T.fa52_0 U) ?_;refine eY 5 [0] sR U U (kU 0 T.one3 U U U) ?_;refine eY 6 [] sR U U (lZ U U sN) ?_;refine eY 7 [] sR U U (Qy.sub U U sN) ?_;refine eY 8 [] sR U U (fX T.fa52_1 U) ?_;refine eY 9 [0] sR U U (kU 0 T.one3 U U U) ?_;refine eY 10 [] sR U U (oH U U sN sN) ?_;refine eY 11 [] sR U U (jV U) ?_;refine eY 12 [] sR U U (jV U) ?_;refine eY 13 [] sR U U (jV U) ?_;refine eY 14 [] sR U U (jV U) ?_;refine iN sR ⟨U,F9⟩ wJ ?_;refine eE 10 [] ?_;refine Ns (.inr U) (Ho:=Hp.only _ []) U (.tmp U) (.tmp U) (.tmp U) (.tmp U) (aV _ _) ?_;rotate_left;refine bE 7 [] ?_;rotate_left
   · have hkk:k=Cw x y:=by
      rcases aK k (Cw x y) with h | h
      · have:=(Mb x y 16 0 k (aM _) h).2;rw [(hit _).2 hc3] at this;cases this
      omega
     have hs:bezS x y=-k:=by unfold bezS;rw [aD hc2,←hkk,aD (by rw [hi2 sN];decide)]
     have ht:bezT x y=((Int.gcd x y:Int) - -(k:Int)*x).tdiv y:=by unfold bezT;rw [aD hc2,hs]
     refine ⟨by rw [hs,ht],U,U⟩
   refine cJ 37 U (show _=Value.int .i64 ((2:Nat):Int) from U) ?_;refine cK (2) ?_ ?_
   · refine ⟨by omega,fun _=>hi2 sN,fun _=>?_⟩;cases hh:Fb x y (-(k:Int))
     · rfl
     exact absurd ((hit _).1 hh) hc3
   show 2 - 2<2 - 1;omega
 subst hi;refine bE 18 [0] ?_;refine cJ 7 U (show _=Value.int .i64 ((k+1:Nat):Int) from U) ?_;refine cK (k+1) ?_ ?_
 · rcases aK k (Cw x y) with h | h
   · exact h
   have hkk:k=Cw x y:=sN;have h1:=hi2 sN;have h2:=hi3 sN;rw [hkk] at h1 h2;rw [h1,h2] at hb4;rcases hb4 with h | h | h
   · exact absurd h hc2
   · cases h
   cases h
 show Cw x y+1 - (k+1)<Cw x y+1 - k;omega
end Go.Proofs.YtkdelpdbjfpgmaaGreatDoor
