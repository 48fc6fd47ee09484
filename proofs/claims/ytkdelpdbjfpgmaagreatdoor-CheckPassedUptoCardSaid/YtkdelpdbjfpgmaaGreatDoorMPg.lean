/- vD of the proof (part 7): what the rows' text needs of the texts that lead to it. -/
import Derived.Test.YtkdelpdbjfpgmaaGreatDoorMPf
set_option linter.unusedVariables false
set_option linter.unusedSimpArgs false
set_option linter.unusedSectionVars false
set_option maxHeartbeats 4000000
set_option maxRecDepth 100000
namespace Go.Proofs.YtkdelpdbjfpgmaaGreatDoor
open Go Go.Sl
def OW (i:Sl.Instr) (σ:Int→Int):Option Int:=
 if i.op=2 then some (-σ i.a)
 else if i.op=3 then some (σ i.a+σ i.b)
 else if i.op=4 then some (σ i.a - σ i.b)
 else if i.op=5∨i.op=7 then some (σ i.a*cst i)
 else if i.op=6∨i.op=8 then (if σ i.a % cst i=0 then some (σ i.a / cst i) else none)
 else some (σ i.a)
def upd (σ:Int→Int) (r v:Int):Int→Int:=fun x=>if x=r then v else σ x
theorem uT (σ:Int→Int) (r v:Int):upd σ r v r=v:=aE F9
theorem uH (σ:Int→Int) {r x:Int} (v:Int) (h:x≠r):upd σ r v x=σ x:=aD h
theorem Wf (σ:Int→Int) (r v w:Int):upd (upd σ r v) r w=upd σ r w:=by
 funext x;unfold upd;split <;> rfl
theorem Jo (σ:Int→Int) (r:Int):upd σ r (σ r)=σ:=by
 funext x;unfold upd;split
 · rename_i h;rw [h]
 rfl
def wD:List Sl.Instr→(Int→Int)→Option (Int→Int)
 | [],σ=>some σ
 | i :: l,σ=>(OW i σ).bind fun x=>wD l (upd σ i.to x)
theorem AE (l m:List Sl.Instr) (σ:Int→Int):wD (l++m) σ=(wD l σ).bind (wD m):=by
 induction l generalizing σ with
 | nil=>rfl
 | cons i l ih =>
   show (OW i σ).bind (fun x=>wD (l++m) (upd σ i.to x))=((OW i σ).bind fun x=>wD l (upd σ i.to x)).bind (wD m);cases OW i σ with
   | none=>rfl
   | some x=>exact ih _
theorem uA {l m:List Sl.Instr} {σ σ1 σ2:Int→Int} (h1:wD l σ=some σ1) (h2:wD m σ1=some σ2):wD (l++m) σ=some σ2:=by
 rw [AE,h1];exact h2
theorem Cw {i:Sl.Instr} {σ:Int→Int} {x:Int} (h:OW i σ=some x):wD [i] σ=some (upd σ i.to x):=by
 show (OW i σ).bind (fun x=>some (upd σ i.to x))=_;rw [h];rfl
theorem Nv (to a b:Int) (σ:Int→Int):wD [⟨3,to,a,b,0⟩] σ=some (upd σ to (σ a+σ b)):=Cw F9
theorem Jp (to a b:Int) (σ:Int→Int):wD [⟨4,to,a,b,0⟩] σ=some (upd σ to (σ a - σ b)):=Cw F9
theorem vL (to x c:Int) (σ:Int→Int):wD (tE to x c) σ=some (upd σ to (c*σ x)):=by
 unfold tE;by_cases h0:c=0
 · rw [aE h0,Jp,h0,sH,eV]
 rw [aD h0];by_cases h1:c=1∧to=x
 · rw [aE h1,h1.1,h1.2,dW,Jo];rfl
 rw [aD h1];by_cases h2:c=1
 · rw [aE h2,h2,dW];rfl
 rw [aD h2];by_cases h3:c=-1
 · rw [aE h3,h3,gR,dW];rfl
 rw [aD h3];refine (Cw (x:=σ x*c) ?_).trans (by rw [cJ]);unfold OW;rw [aD (show ¬((5:Int)=2) by decide),aD (show ¬((5:Int)=3) by decide),aD (show ¬((5:Int)=4) by decide),aE (.inl rfl),Zg (.inl rfl)]
theorem AF (to c:Int) (σ:Int→Int) (hc:c≠0) (hd:c ∣ σ to):wD (xW to c) σ=some (upd σ to (σ to / c)):=by
 unfold xW;by_cases h1:c=1
 · rw [aE h1,h1,Int.ediv_one,Jo];rfl
 rw [aD h1];by_cases h2:c=-1
 · rw [aE h2,h2,Int.ediv_neg,Int.ediv_one];rfl
 rw [aD h2];refine Cw ?_;unfold OW;rw [aD (show ¬((6:Int)=2) by decide),aD (show ¬((6:Int)=3) by decide),aD (show ¬((6:Int)=4) by decide),aD (show ¬((6:Int)=5∨(6:Int)=7) by decide),aE (.inl rfl),Zg (.inr rfl)];exact aE (Int.emod_eq_zero_of_dvd hd)
theorem Tt (to g:Int) (hg:g≠0):∀ (m:Nat) (σ:Int→Int) (v:Int),σ to=g ^ m*v→wD ((List.replicate m (xW to g)).flatten) σ=some (upd σ to v)
 | 0,σ,v,h=>by
   rw [lC,dW] at h;rw [←h,Jo];rfl
 | m+1,σ,v,h=>by
   have e:σ to=g*(g ^ m*v):=by rw [h,gU];ac_rfl
   rw [oR,sF];refine (uA (AF to g σ hg ⟨_,e⟩) (Tt to g hg m _ v ?_)).trans ?_
   · rw [uT,e,pU _ hg]
   rw [Wf]
def Qb (to c:Int):Int→Int→Nat→List Sl.Instr
 | fr,k,0=>tE to fr k
 | fr,k,e+1=>if 512<k*c∨k*c < -512 then tE to fr k++Qb to c to c e else Qb to c fr (k*c) e
def Am (to a c:Int) (e:Nat):List Sl.Instr:=
 if (c=0∧0<e)∨c=1∨c=-1 then tE to a (if c=-1∧e % 2=0 then 1 else c) else Qb to c a 1 e
theorem Qc (to c:Int):∀ (e:Nat) (fr k:Int) (σ:Int→Int),wD (Qb to c fr k e) σ=some (upd σ to (σ fr*(k*c ^ e)))
 | 0,fr,k,σ=>by
   unfold Qb;rw [vL,lC,gZ,cJ]
 | e+1,fr,k,σ=>by
   unfold Qb;split
   · refine (uA (vL to fr k σ) (Qc to c e to c _)).trans ?_;rw [Wf,uT];congr 2;rw [gU];ac_rfl
   rw [Qc to c e fr (k*c) σ];congr 2;rw [gU];ac_rfl
theorem Ew (e:Nat):(-1:Int) ^ e=if e % 2=0 then 1 else -1:=by
 induction e with
 | zero=>rfl
 | succ e ih =>
   rw [gU,ih];by_cases h:e % 2=0
   · rw [aE h,aD (by omega)];rfl
   rw [aD h,aE (by omega)];rfl
theorem OX (to a c:Int) (e:Nat) (σ:Int→Int):wD (Am to a c e) σ=some (upd σ to (σ a*c ^ e)):=by
 unfold Am;by_cases h:(c=0∧0<e)∨c=1∨c=-1
 · rw [aE h,vL];congr 2;rw [cJ];congr 1;rcases h with ⟨rfl,h⟩ | rfl | rfl
   · rw [aD (fun h=>absurd h.1 tG),sG sW]
   · rw [aD (fun h=>absurd h.1 tG),Int.one_pow]
   rw [Ew];by_cases he:e % 2=0
   · rw [aE ⟨rfl,he⟩,aE he]
   rw [aD (fun h=>he h.2),aD he]
 rw [aD h,Qc,dW]
def vE (wh:List R2) (k:Int):R2:=wh[k.toNat]?.getD default
def Br (wh:List R2) (k i:Int):Int:=bezS (vE wh k).a (vE wh k).b*(vE wh i).a+bezT (vE wh k).a (vE wh k).b*(vE wh i).b
def An (wh:List R2) (k i:Int):Int:=(vE wh k).a*(vE wh i).b - (vE wh i).a*(vE wh k).b
def Cb (n:Int) (wh:List R2) (k:Int) (e:Nat) (i:Int):List Sl.Instr:=
 (if Br wh k i≠0∨e=0 then Am (3*n) k (Br wh k i) e++[⟨4,i,i,3*n,0⟩] else [])++(if An wh k i=1 then [] else xW i (An wh k i))
def yX (n:Int) (wh:List R2) (k:Int) (e:Nat):List Int→List Sl.Instr
 | []=>[]
 | i :: left=>Cb n wh k e i++yX n wh k e left
theorem AG {n:Int} {wh:List R2} {k:Int} {e:Nat} {i:Int} {σ:Int→Int} {y:Int} (hk:k≠3*n) (hi:i≠3*n) (hd:An wh k i≠0) (hy:σ i - σ k*Br wh k i ^ e=An wh k i*y) :
 ∃ σ',wD (Cb n wh k e i) σ=some σ'∧σ' i=y∧∀ r,r≠i→r≠3*n→σ' r=σ r:=by
 obtain ⟨σ1,h1,h2,h3⟩:∃ σ1,wD (if Br wh k i≠0∨e=0 then Am (3*n) k (Br wh k i) e++[⟨4,i,i,3*n,0⟩] else []) σ=some σ1∧σ1 i=An wh k i*y∧∀ r,r≠i→r≠3*n→σ1 r=σ r:=by
  by_cases h:Br wh k i≠0∨e=0
  · rw [aE h];refine ⟨_,uA (OX _ _ _ _ _) (Jp _ _ _ _),?_,fun r h1 h2=>?_⟩
    · rw [uT,uT,uH _ _ hi,hy]
    rw [uH _ _ h1,uH _ _ h2]
  rw [aD h];refine ⟨σ,F9,?_,fun _ _ _=>rfl⟩;have hl:Br wh k i=0:=eE fun x=>h (.inl x);have he:e≠0:=fun x=>h (.inr x);rw [←hy,hl,sG he,bR,lB]
 unfold Cb;by_cases h:An wh k i=1
 · rw [aE h,bB];exact ⟨σ1,h1,by rw [h2,h,dW],h3⟩
 rw [aD h];refine ⟨_,uA h1 (AF i (An wh k i) σ1 hd ⟨y,h2⟩),?_,fun r g1 g2=>?_⟩
 · rw [uT,h2,pU _ hd]
 rw [uH _ _ g1];exact h3 r g1 g2
theorem Tu {n:Int} {wh:List R2} {k:Int} {e:Nat} (hk:k≠3*n) (y:Int→Int):∀ (left:List Int) (σ:Int→Int),left.Nodup→k ∉ left→(∀ i∈left,i≠3*n∧An wh k i≠0∧σ i - σ k*Br wh k i ^ e=An wh k i*y i)→
 ∃ σ',wD (yX n wh k e left) σ=some σ'∧(∀ i∈left,σ' i=y i)∧∀ r,r ∉ left→r≠3*n→σ' r=σ r
 | [],σ,_,_,_=>⟨σ,F9,fun i h=>(by cases h),fun _ _ _=>rfl⟩
 | i :: left,σ,hn,hkl,h=>by
   obtain ⟨hn1,hn2⟩:=qU.1 hn;obtain ⟨g1,g2,g3⟩:=h i bF;obtain ⟨σ1,a1,a2,a3⟩:=AG hk g1 g2 g3;have hki:k≠i:=fun e=>hkl (by rw [e];exact bF);obtain ⟨σ2,b1,b2,b3⟩:=Tu hk y left σ1 hn2 (fun x=>hkl (bA _ x)) (fun j hj=>by
    obtain ⟨k1,k2,k3⟩:=h j (bA _ hj);have hji:j≠i:=fun e=>hn1 (e▸hj);refine ⟨k1,k2,?_⟩;rw [a3 j hji k1,a3 k hki hk];exact k3)
   refine ⟨σ2,uA a1 b1,fun j hj=>?_,fun r hr hr2=>?_⟩
   · rcases iU.1 hj with rfl | hj
     · rw [b3 j hn1 g1,a2]
     exact b2 j hj
   rw [b3 r (fun x=>hr (bA _ x)) hr2,a3 r (fun x=>hr (by rw [x];exact bF)) hr2]
def Bi (n u v:Int) (th:List Bool) (j:Nat):List Bool×List Sl.Instr:=
 let low:=decide (0<j) && th[j - 1]?.getD false && decide (u≠0)
 let own:=th[j]?.getD false && decide (v≠0)
 (th.set j (own || low),
  (if low then tE (3*n) (2*n+(j - 1)) u else []) ++
  (if own && low then tE (2*n+j) (2*n+j) v++[⟨3,2*n+j,2*n+j,3*n,0⟩] else if own then tE (2*n+j) (2*n+j) v else if low then tE (2*n+j) (3*n) 1 else []))
def Tv (n u v:Int):Nat→List Bool→List Bool×List Sl.Instr
 | 0,th=>(th,[])
 | m+1,th=>((Tv n u v m (Bi n u v th m).1).1,(Bi n u v th m).2++(Tv n u v m (Bi n u v th m).1).2)
def Hr (n u v:Int):Nat→Nat→List Bool→List Bool×List Sl.Instr
 | 0,_,th=>(th,[])
 | m+1,d,th=>((Hr n u v m (d+1) (Tv n u v (d+1) th).1).1,(Tv n u v (d+1) th).2++(Hr n u v m (d+1) (Tv n u v (d+1) th).1).2)
def yC (n u v:Int) (e:Nat):List Bool:=(Hr n u v e 1 ((List.replicate (e+1) false).set 0 true)).1
def zR (n u v k:Int) (e:Nat):List Sl.Instr:=tE (2*n) k 1++(Hr n u v e 1 ((List.replicate (e+1) false).set 0 true)).2
def KR (n:Int) (th:List Bool) (σ:Int→Int) (j:Nat) (x:Int):Prop:=(th[j]?.getD false=true→σ (2*n+j)=x)∧(th[j]?.getD false=false→x=0)
theorem Lj (n u v:Int) (th:List Bool) (j:Nat):(Bi n u v th j).1.length=th.length:=aG
theorem Ms (n u v:Int) (th:List Bool) {j i:Nat} (h:i≠j):(Bi n u v th j).1[i]?=th[i]?:=by
 show (th.set j _)[i]?=_;rw [cI,aD (fun e=>h e.symm)]
theorem JN {n u v:Int} {th:List Bool} {j:Nat} {σ:Int→Int} {x y:Int} (hj:j<th.length) (hn:(j:Int)<n) (hx:KR n th σ j x) (hy:0<j→KR n th σ (j - 1) y) (hy0:j=0→y=0) :
 ∃ σ',wD (Bi n u v th j).2 σ=some σ'∧KR n (Bi n u v th j).1 σ' j (v*x+u*y)∧∀ r,r≠2*n+j→r≠3*n→σ' r=σ r:=by
 have hne:(2*n+j:Int)≠3*n:=sW;have hset:∀ b:Bool,(th.set j b)[j]?.getD false=b:=fun b=>by rw [cI,aE rfl,aE hj];rfl
 have hown:(th[j]?.getD false && decide (v≠0))=false→v*x=0:=fun h=>by
  rcases qY.1 h with h | h
  · rw [hx.2 h,bR]
  rw [eE fun h2=>mZ h h2,eV]
 have hown1:(th[j]?.getD false && decide (v≠0))=true→σ (2*n+j)=x:=fun h=>hx.1 (rL.1 h).1;have hlow:(decide (0<j) && th[j - 1]?.getD false && decide (u≠0))=false→u*y=0:=fun h=>by
  by_cases hj0:j=0
  · rw [hy0 hj0,bR]
  rcases qY.1 h with h | h
  · rcases qY.1 h with h | h
    · exact absurd sW (mZ h)
    rw [(hy sW).2 h,bR]
  rw [eE fun h2=>mZ h h2,eV]
 have hlow1:(decide (0<j) && th[j - 1]?.getD false && decide (u≠0))=true→σ (2*n+((j:Int) - 1))=y:=fun h=>by
  have h2:=(rL.1 h).1;have h3:=rL.1 h2;have hj1:0<j:=fQ h3.1;have:=(hy hj1).1 h3.2;rw [show ((j:Int) - 1)=((j - 1:Nat):Int) by omega];exact this
 unfold Bi;simp only;generalize (decide (0<j) && th[j - 1]?.getD false && decide (u≠0))=low at *;generalize (th[j]?.getD false && decide (v≠0))=own at *;cases low <;> cases own
 · refine ⟨σ,F9,⟨fun h=>?_,fun _=>?_⟩,fun _ _ _=>rfl⟩
   · rw [hset] at h;cases h
   rw [hown rfl,hlow rfl];rfl
 · refine ⟨_,vL _ _ _ _,⟨fun _=>?_,fun h=>?_⟩,fun r h1 h2=>uH _ _ h1⟩
   · rw [uT,hown1 rfl,hlow rfl,fN]
   rw [hset] at h;cases h
 · refine ⟨_,uA (m:=tE (2*n+j) (3*n) 1) (vL _ _ _ _) (vL _ _ _ _),⟨fun _=>?_,fun h=>?_⟩,fun r h1 h2=>?_⟩
   · rw [uT,uT,hlow1 rfl,hown rfl,lA,dW]
   · rw [hset] at h;cases h
   rw [uH _ _ h1,uH _ _ h2]
 have h9:=uA (vL (3*n) (2*n+(j - 1)) u σ) (uA (vL (2*n+j) (2*n+j) v _) (Nv (2*n+j) (2*n+j) (3*n) _));refine ⟨_,h9,⟨fun _=>?_,fun h=>?_⟩,fun r h1 h2=>?_⟩
 · rw [uT,uT,uH _ _ hne,uH _ _ (lT hne),uT,hown1 rfl,hlow1 rfl]
 · rw [hset] at h;cases h
 rw [uH _ _ h1,uH _ _ h1,uH _ _ h2]
def OY (u v:Int) (C:Nat→Int) (j:Nat):Int:=v*C j+u*(if j=0 then 0 else C (j - 1))
theorem Tw {n:Int} {th th':List Bool} {σ σ':Int→Int} {j:Nat} {x:Int} (h:KR n th σ j x) (ht:th'[j]?=th[j]?) (hs:σ' (2*n+j)=σ (2*n+j)):KR n th' σ' j x:=by
 unfold KR at *;rw [ht,hs];exact h
theorem FW {n u v:Int} {C:Nat→Int}:∀ (m:Nat) (th:List Bool) (σ:Int→Int),m≤th.length→(m:Int)≤n→(∀ j,j<m→KR n th σ j (C j))→
 ∃ σ',wD (Tv n u v m th).2 σ=some σ'∧(Tv n u v m th).1.length=th.length∧(∀ j,j<m→KR n (Tv n u v m th).1 σ' j (OY u v C j))∧(∀ j,m≤j→(Tv n u v m th).1[j]?=th[j]?)∧(∀ r,(∀ j:Nat,j<m→r≠2*n+j)→r≠3*n→σ' r=σ r)
 | 0,th,σ,_,_,_=>⟨σ,F9,F9,fun j h=>sW,fun _ _=>rfl,fun _ _ _=>rfl⟩
 | m+1,th,σ,hl,hn,h=>by
   obtain ⟨σ1,a1,a2,a3⟩:=JN (u:=u) (v:=v) (y:=if m=0 then 0 else C (m - 1)) (show m<th.length by omega) sW (h m sW) (fun hm=>by rw [aD (by omega)];exact h (m - 1) sW) (fun hm=>aE hm);obtain ⟨σ2,b1,b2,b3,b4,b5⟩:=FW (u:=u) (v:=v) (C:=C) m (Bi n u v th m).1 σ1 (by rw [Lj];omega) sW (fun j hj=>Tw (h j sW) (Ms n u v th sW) (a3 _ sW sW));refine ⟨σ2,uA a1 b1,by rw [←Lj n u v th m];exact b2,fun j hj=>?_,fun j hj=>?_,fun r hr hr2=>?_⟩
   · rcases aK j m with hjm | hjm
     · exact b3 j hjm
     have e:j=m:=sW;subst e;exact Tw a2 (b4 j (aI _)) (b5 _ (fun i hi=>by omega) sW)
   · exact (b4 j sW).trans (Ms n u v th sW)
   rw [b5 r (fun j hj=>hr j sW) hr2,a3 r (hr m sW) hr2]
def ff (u v:Int):Nat→(Nat→Int)→Nat→Int
 | 0,C=>C
 | m+1,C=>ff u v m (OY u v C)
theorem AH {n u v:Int}:∀ (m d:Nat) (th:List Bool) (σ:Int→Int) (C:Nat→Int),d+m≤th.length→(th.length:Int)≤n→(∀ j,d≤j→C j=0)→(∀ j,j<th.length→KR n th σ j (C j))→(∀ j,d≤j→th[j]?.getD false=false)→
 ∃ σ',wD (Hr n u v m d th).2 σ=some σ'∧(Hr n u v m d th).1.length=th.length∧(∀ j,j<th.length→KR n (Hr n u v m d th).1 σ' j (ff u v m C j))∧(∀ r,(∀ j:Nat,j<th.length→r≠2*n+j)→r≠3*n→σ' r=σ r)
 | 0,d,th,σ,C,_,_,_,h,_=>⟨σ,F9,F9,h,fun _ _ _=>rfl⟩
 | m+1,d,th,σ,C,hl,hn,hC,h,hf=>by
   obtain ⟨σ1,a1,a2,a3,a4,a5⟩:=FW (u:=u) (v:=v) (C:=C) (d+1) th σ sW sW (fun j hj=>h j sW);have hC':∀ j,d+1≤j→OY u v C j=0:=fun j hj=>by
    unfold OY;rw [aD (by omega),hC j sW,hC (j - 1) sW,bR,bR];rfl
   have hf':∀ j,d+1≤j→(Tv n u v (d+1) th).1[j]?.getD false=false:=fun j hj=>by rw [a4 j hj];exact hf j sW
   obtain ⟨σ2,b1,b2,b3,b4⟩:=AH (u:=u) (v:=v) m (d+1) (Tv n u v (d+1) th).1 σ1 (OY u v C) (by rw [a2];omega) (by rw [a2];exact hn) hC' (fun j hj=>by
    rcases aK j (d+1) with hjd | hjd
    · exact a3 j hjd
    exact ⟨fun x=>(by rw [hf' j hjd] at x;cases x),fun _=>hC' j hjd⟩) hf'
   refine ⟨σ2,uA a1 b1,by rw [←a2];exact b2,fun j hj=>b3 j (by rw [a2];exact hj),fun r hr hr2=>?_⟩;rw [b4 r (fun j hj=>hr j (by rw [←a2];exact hj)) hr2,a5 r (fun j hj=>hr j sW) hr2]
def co (f:List Int) (j:Nat):Int:=f[j]?.getD 0
theorem Qd (p q:Int):∀ (f:List Int) (last:Int) (j:Nat),co (zV p q last f) j=p*co f j - q*(if j=0 then last else co f (j - 1))
 | [],last,0=>by show -(q*last)=p*0 - q*last;rw [bR];omega
 | [],last,j+1=>by show (0:Int)=p*0 - q*0;rw [bR,bR];rfl
 | c :: f,last,0=>rfl
 | c :: f,last,j+1=>by
   show co (zV p q c f) j=p*co f j - q*co (c :: f) j;rw [Qd p q f c j];cases j <;> rfl
theorem JO (u v:Int) (e:Nat):co (wT u v (e+1))=OY u v (co (wT u v e)):=by
 funext j;show co (zV v (-u) 0 (wT u v e)) j=_;rw [Qd];unfold OY;rw [gR,Int.sub_neg]
theorem OZ (u v y:Int) (C:Nat→Int):OY u v (fun j=>y*C j)=fun j=>y*OY u v C j:=by
 funext j;unfold OY;rw [cZ];split
 · rw [bR,bR];congr 1;ac_rfl
 congr 1 <;> ac_rfl
theorem FX (u v y:Int):∀ (m e:Nat),ff u v m (fun j=>y*co (wT u v e) j)=fun j=>y*co (wT u v (e+m)) j
 | 0,e=>rfl
 | m+1,e=>by
   show ff u v m (OY u v fun j=>y*co (wT u v e) j)=_;rw [OZ,←JO,FX u v y m (e+1),show e+1+m=e+(m+1) by omega]
theorem Qe (n u v:Int):∀ (m:Nat) (th:List Bool),(Tv n u v m th).1.length=th.length
 | 0,_=>rfl
 | m+1,th=>by show (Tv n u v m _).1.length=_;rw [Qe,Lj]
theorem AI (n u v:Int):∀ (m d:Nat) (th:List Bool),(Hr n u v m d th).1.length=th.length
 | 0,_,_=>rfl
 | m+1,d,th=>by show (Hr n u v m _ _).1.length=_;rw [AI,Qe]
theorem zW (n u v:Int) (e:Nat):(yC n u v e).length=e+1:=by unfold yC;rw [AI,aG,aJ]
theorem DQ {n u v k:Int} {e:Nat} {σ:Int→Int} (he:(e:Int)<n) :
 ∃ σ',wD (zR n u v k e) σ=some σ'∧(∀ j,j≤e→KR n (yC n u v e) σ' j (σ k*co (wT u v e) j))∧∀ r,r<2*n→σ' r=σ r:=by
 have hl:((List.replicate (e+1) false).set 0 true).length=e+1:=by rw [aG,aJ]
 have hget:∀ j:Nat,((List.replicate (e+1) false).set 0 true)[j]?.getD false=decide (j=0):=fun j=>by
  rw [cI];split
  · rename_i h;subst h;rw [aE (by rw [aJ];omega)];rfl
  rename_i h;rw [fW,cD (fun e=>h e.symm)];split <;> rfl
 have e0:∀ j:Nat,σ k*co (wT u v 0) j=if j=0 then σ k else 0:=fun j=>by
  cases j with
  | zero=>show σ k*1=_;rw [gZ];rfl
  | succ j=>show σ k*0=_;rw [bR];rfl
 obtain ⟨σ',h1,h2,h3,h4⟩:=AH (n:=n) (u:=u) (v:=v) e 1 ((List.replicate (e+1) false).set 0 true) (upd σ (2*n) (1*σ k)) (fun j=>σ k*co (wT u v 0) j) (by rw [hl];omega) (by rw [hl];omega) (fun j hj=>by simp only [e0];exact aD (by omega))
  (fun j hj=>by
   unfold KR;rw [hget,e0];by_cases hj0:j=0
   · subst hj0;refine ⟨fun _=>?_,fun h=>(by cases h)⟩;show upd σ (2*n) (1*σ k) (2*n+((0:Nat):Int))=σ k;rw [show (2*n+((0:Nat):Int))=2*n by omega,uT,dW]
   rw [cD hj0,aD hj0];exact ⟨fun h=>(by cases h),fun _=>rfl⟩) (fun j hj=>by rw [hget];exact cD sW)
 refine ⟨σ',uA (vL _ _ _ _) h1,fun j hj=>?_,fun r hr=>?_⟩
 · have:=h3 j (by rw [hl];omega);rw [FX,cS] at this;exact this
 rw [h4 r (fun j _=>by omega) sW,uH _ _ sW]
def Wg (n:Int) (p:R2):Nat→List Sl.Instr
 | 0=>[]
 | j+1=>(if 0<j then tE (3*n) (n+((j:Int) - 1)) p.b else [])++(tE (n+j) (n+j) p.a++((if 0<j then [⟨4,n+j,n+j,3*n,0⟩] else [])++Wg n p j))
def Jq (n:Int) (p:R2) (e:Nat):List Sl.Instr:=tE (n+e) (n+((e:Int) - 1)) (-p.b)++Wg n p e
def Cj (n:Int):List Bool→Nat→List Sl.Instr
 | [],_=>[]
 | t :: ts,j=>(if t then [⟨3,n+j,n+j,2*n+j,0⟩] else [])++Cj n ts (j+1)
def xX (n:Int) (wh:List R2) (k:Int) (e:Nat):List Sl.Instr:=
 Jq n (vE wh k) e++(zR n (bezS (vE wh k).a (vE wh k).b) (bezT (vE wh k).a (vE wh k).b) k e++Cj n (yC n (bezS (vE wh k).a (vE wh k).b) (bezT (vE wh k).a (vE wh k).b) e) 0)
theorem AJ {n:Int} {p:R2} {c:Nat→Int}:∀ (m:Nat) (σ:Int→Int),(m:Int)≤n→(∀ j:Nat,j<m→σ (n+j)=c j)→
 ∃ σ',wD (Wg n p m) σ=some σ'∧(∀ j:Nat,j<m→σ' (n+j)=p.a*c j - p.b*(if j=0 then 0 else c (j - 1)))∧∀ r,(∀ j:Nat,j<m→r≠n+j)→r≠3*n→σ' r=σ r
 | 0,σ,_,_=>⟨σ,F9,fun j h=>sW,fun _ _ _=>rfl⟩
 | m+1,σ,hm,h=>by
   obtain ⟨σ1,a1,a2,a3⟩:∃ σ1,wD ((if 0<m then tE (3*n) (n+((m:Int) - 1)) p.b else [])++(tE (n+m) (n+m) p.a++(if 0<m then [⟨4,n+m,n+m,3*n,0⟩] else []))) σ=some σ1∧σ1 (n+m)=p.a*c m - p.b*(if m=0 then 0 else c (m - 1))∧∀ r,r≠n+m→r≠3*n→σ1 r=σ r:=by
    by_cases hm0:0<m
    · rw [aE hm0,aE hm0,aD (by omega)];refine ⟨_,uA (vL _ _ _ _) (uA (vL _ _ _ _) (Jp _ _ _ _)),?_,fun r h1 h2=>?_⟩
      · have e1:σ (n+((m:Int) - 1))=c (m - 1):=by
         rw [show ((m:Int) - 1)=((m - 1:Nat):Int) by omega];exact h (m - 1) sW
        rw [uT,uT,uH _ _ sW,uH _ _ sW,uT,h m sW,e1]
      rw [uH _ _ h1,uH _ _ h1,uH _ _ h2]
    rw [aD hm0,aD hm0,aE (by omega),gA,bB];refine ⟨_,vL _ _ _ _,?_,fun r h1 h2=>uH _ _ h1⟩;rw [uT,h m sW,bR,lB]
   obtain ⟨σ2,b1,b2,b3⟩:=AJ (n:=n) (p:=p) (c:=c) m σ1 sW (fun j hj=>by rw [a3 _ sW sW];exact h j sW);refine ⟨σ2,?_,fun j hj=>?_,fun r hr hr2=>?_⟩
   · have:=uA a1 b1;rw [aR,aR] at this;exact this
   · rcases aK j m with hjm | hjm
     · exact b2 j hjm
     have e:j=m:=sW;subst e;rw [b3 _ (fun i hi=>by omega) sW];exact a2
   rw [b3 r (fun j hj=>hr j sW) hr2,a3 r (hr m sW) hr2]
theorem Qf {n:Int} (σ0:Int→Int):∀ (th:List Bool) (j0:Nat) (σ:Int→Int),((j0+th.length:Nat):Int)≤n→(∀ r,(∀ j:Nat,j<j0→r≠n+j)→σ r=σ0 r)→
 ∃ σ',wD (Cj n th j0) σ=some σ'∧(∀ j:Nat,j<th.length→σ' (n+(j0+j:Nat))=σ0 (n+(j0+j:Nat))+(if th[j]?.getD false=true then σ0 (2*n+(j0+j:Nat)) else 0))∧∀ r,(∀ j:Nat,j<th.length→r≠n+(j0+j:Nat))→σ' r=σ r
 | [],j0,σ,_,_=>⟨σ,F9,fun j h=>(by simp at h),fun _ _=>rfl⟩
 | t :: th,j0,σ,hn,h0=>by
   rw [aY] at hn;obtain ⟨σ1,a1,a2,a3⟩:∃ σ1,wD (if t then [⟨3,n+j0,n+j0,2*n+j0,0⟩] else []) σ=some σ1∧σ1 (n+j0)=σ0 (n+j0)+(if t=true then σ0 (2*n+j0) else 0)∧∀ r,r≠n+j0→σ1 r=σ r:=by
    have e1:σ (n+j0)=σ0 (n+j0):=h0 _ (fun j hj=>by omega);have e2:σ (2*n+j0)=σ0 (2*n+j0):=h0 _ (fun j hj=>by omega);cases t
    · exact ⟨σ,F9,by rw [e1];exact (fN _).symm,fun _ _=>rfl⟩
    refine ⟨_,Nv _ _ _ _,?_,fun r hr=>uH _ _ hr⟩;rw [uT,e1,e2];rfl
   obtain ⟨σ2,b1,b2,b3⟩:=Qf (n:=n) σ0 th (j0+1) σ1 sW (fun r hr=>by
    rw [a3 r (hr j0 sW)];exact h0 r (fun j hj=>hr j sW))
   refine ⟨σ2,uA a1 b1,fun j hj=>?_,fun r hr=>?_⟩
   · rw [aY] at hj;cases j with
     | zero =>
       rw [b3 _ (fun j hj=>by omega)];exact a2
     | succ j =>
       have:=b2 j sW;rw [show j0+1+j=j0+(j+1) by omega] at this;exact this
   rw [b3 r (fun j hj=>by have:=hr (j+1) Mg;rw [show j0+1+j=j0+(j+1) by omega];exact this)];refine a3 r ?_;have:=hr 0 Mg;exact this
theorem PB {n:Int} {wh:List R2} {k:Int} {e:Nat} {σ:Int→Int} (f:List Int) (hf:f.length=e) (h1:1≤e) (he:(e:Int)<n) (hk:k<n) (hs:∀ j:Nat,j<e→σ (n+j)=co f j) :
 ∃ σ',wD (xX n wh k e) σ=some σ'∧(∀ j:Nat,j≤e→σ' (n+j)=co (zV (vE wh k).a (vE wh k).b 0 f) j+σ k*co (wT (bezS (vE wh k).a (vE wh k).b) (bezT (vE wh k).a (vE wh k).b) e) j)∧∀ r,r<n→σ' r=σ r:=by
 generalize hp:vE wh k=p;generalize hu:bezS p.a p.b=u;generalize hv:bezT p.a p.b=v;unfold xX;rw [hp,hu,hv];obtain ⟨σ1,a1,a2,a3⟩:=AJ (n:=n) (p:=p) (c:=co f) e (upd σ (n+e) (-p.b*σ (n+((e:Int) - 1)))) sW (fun j hj=>by rw [uH _ _ sW];exact hs j hj);have hA:wD (Jq n p e) σ=some σ1:=uA (vL _ _ _ _) a1;have hB:∀ j:Nat,j≤e→σ1 (n+j)=co (zV p.a p.b 0 f) j:=fun j hj=>by
  rw [Qd];rcases aK j e with hje | hje
  · exact a2 j hje
  have e1:j=e:=sW;subst e1;rw [a3 _ (fun i hi=>by omega) sW,uT,aD (by omega)];have e2:co f j=0:=by unfold co;rw [cA sW];rfl
  have e3:σ (n+((j:Int) - 1))=co f (j - 1):=by
   rw [show ((j:Int) - 1)=((j - 1:Nat):Int) by omega];exact hs (j - 1) sW
  rw [e2,e3,bR,gR];omega
 have hC:∀ r,r<n→σ1 r=σ r:=fun r hr=>by rw [a3 r (fun j hj=>by omega) sW,uH _ _ sW]
 obtain ⟨σ2,b1,b2,b3⟩:=DQ (u:=u) (v:=v) (k:=k) (σ:=σ1) he;obtain ⟨σ3,c1,c2,c3⟩:=Qf (n:=n) σ2 (yC n u v e) 0 σ2 (by rw [zW];omega) (fun _ _=>rfl);refine ⟨σ3,uA hA (uA b1 c1),fun j hj=>?_,fun r hr=>?_⟩
 · have h2:=c2 j (by rw [zW];omega);rw [cS] at h2;rw [h2,b3 _ sW,hB j hj];congr 1;obtain ⟨g1,g2⟩:=b2 j hj;rw [hC k hk] at g1 g2;cases ht:(yC n u v e)[j]?.getD false with
   | true=>rw [aE rfl];exact g1 ht
   | false=>rw [aD (by decide)];exact (g2 ht).symm
 rw [c3 r (fun j hj=>by omega),b3 r sW,hC r hr]
def yY (n:Int) (wh:List R2):List Int→List Sl.Instr
 | []=>[]
 | k :: left=>yX n wh k left.length left++yY n wh left
def vT (n:Int) (wh:List R2):List Int→List Sl.Instr
 | []=>[]
 | [k]=>tE n k 1
 | k :: i :: left=>vT n wh (i :: left)++xX n wh k (i :: left).length
theorem UP {t:Int} {F G:List Int} (h:F.length=G.length) (j:Nat):co (Eu t F G) j=co F j - t*co G j:=by
 unfold co Eu;rw [List.getElem?_zipWith];rcases aK j F.length with hj | hj
 · rw [aA hj,aA (show j<G.length by omega)];rfl
 rw [cA hj,cA (show G.length≤j by omega)];show (0:Int)=0 - t*0;rw [bR];rfl
theorem Tx {n:Int} {wh:List R2}:∀ (o:List Int) (f:List Int) (σ:Int→Int),o.Nodup→o≠[]→(∀ k∈o,0≤k∧k<n)→(o.length:Int)≤n→
 (∀ k∈o,Int.gcd (vE wh k).a (vE wh k).b=1∧bezS (vE wh k).a (vE wh k).b*(vE wh k).a+bezT (vE wh k).a (vE wh k).b*(vE wh k).b=1)→(∀ k∈o,∀ i∈o,k≠i→An wh k i≠0)→f.length=o.length→(∀ k∈o,σ k=ev f (vE wh k).a (vE wh k).b)→
 ∃ σ',wD (yY n wh o++vT n wh o) σ=some σ'∧(∀ j:Nat,j<f.length→σ' (n+j)=co f j)∧∀ r,r<n→r ∉ o→σ' r=σ r
 | [],f,σ,_,h,_,_,_,_,_,_=>absurd F9 h
 | [k],f,σ,_,_,ho,_,_,_,hf,hv=>by
   obtain ⟨c,rfl⟩:∃ c,f=[c]:=by
    match f,hf with
    | [c],_=>exact ⟨c,F9⟩
   have hk:=ho k uE;refine ⟨_,(vL n k 1 σ:wD (tE n k 1) σ=_),fun j hj=>?_,fun r hr hr2=>uH _ _ sW⟩;have hj0:j=0:=by simpa using hj
   subst hj0;show upd σ n (1*σ k) (n+((0:Nat):Int))=c;rw [show n+((0:Nat):Int)=n by omega,uT,hv k uE,dW];show c*_ ^ 0+_*0=c;rw [lC,gZ,bR,fN]
 | k :: i :: left,f,σ,hn,_,ho,hon,hg,hd,hf,hv=>by
   obtain ⟨hn1,hn2⟩:=qU.1 hn;obtain ⟨hk0,hkn⟩:=ho k bF;obtain ⟨hgk,hbk⟩:=hg k bF;generalize hrest:i :: left=rest at *;have hrl:1≤rest.length:=by rw [←hrest];simp
   rw [aY] at hf hon;obtain ⟨g,g1,g2,g3⟩:=JM hgk hbk f rest.length hf;have hvk:=hv k bF;obtain ⟨σ1,a1,a2,a3⟩:=Tu (n:=n) (wh:=wh) (k:=k) (e:=rest.length) sW (fun i=>ev g (vE wh i).a (vE wh i).b) rest σ hn2 hn1 (fun i hi=>by
    have:=ho i (bA _ hi);refine ⟨by omega,hd k bF i (bA _ hi) (fun e=>hn1 (e▸hi)),?_⟩;rw [hvk,hv i (bA _ hi)];have e2:=g3 (vE wh i).a (vE wh i).b;have e3:An wh k i=(vE wh k).a*(vE wh i).b - (vE wh k).b*(vE wh i).a:=by unfold An;rw [cJ (vE wh i).a]
    rw [e3];exact e2)
   obtain ⟨σ2,b1,b2,b3⟩:=Tx rest g σ1 hn2 (by intro e;rw [e] at hrl;simp at hrl) (fun k hk=>ho k (bA _ hk)) sW (fun k hk=>hg k (bA _ hk)) (fun k hk i hi=>hd k (bA _ hk) i (bA _ hi)) g1 (fun i hi=>a2 i hi);have hk2:σ2 k=σ k:=by rw [b3 k hkn hn1,a3 k hn1 sW]
   obtain ⟨σ3,c1,c2,c3⟩:=PB (wh:=wh) (σ:=σ2) g g1 hrl sW hkn (fun j hj=>b2 j sW);refine ⟨σ3,?_,fun j hj=>?_,fun r hr hr2=>?_⟩
   · have e1:yY n wh (k :: rest)++vT n wh (k :: rest)=yX n wh k rest.length rest++((yY n wh rest++vT n wh rest)++xX n wh k rest.length):=by
      have e2:vT n wh (k :: rest)=vT n wh rest++xX n wh k rest.length:=by rw [←hrest];rfl
      rw [e2];show (yX n wh k rest.length rest++yY n wh rest)++_=_;simp only [aR]
     rw [e1];exact uA a1 (uA b1 c1)
   · rw [c2 j sW,←g2,hk2,hvk,UP (by rw [hf,Dk])];omega
   rw [c3 r hr,b3 r hr (fun x=>hr2 (bA _ x)),a3 r (fun x=>hr2 (bA _ x)) sW]
def Bj (o:List Int) (n:Nat):Prop:=o.length=n∧(∀ x∈o,0≤x∧x<n)∧o.Nodup
instance (o:List Int) (n:Nat):Decidable (Bj o n):=inferInstanceAs (Decidable (_∧_))
theorem Lk {q:PV} (h:1≤q.ins∧q.ins≤q.regs∧q.regs≤128∧q.code.length≤16384∧1≤q.outs.length∧q.outs.length≤128) (ho:∀ r∈q.outs,0≤r∧r<q.regs) (hc:∀ i∈q.code,tI i q.regs=true):sY q=true:=by
 have h1:xH q=true:=by
  unfold xH;rw [aW,aV,eN];exact ⟨by omega,fun r hr=>by rw [aV];exact ho r hr⟩
 have h2:Cs q=none:=by
  unfold Cs;rw [gT];intro i hi;rw [hc i hi];rfl
 unfold sY vC;rw [aD (by rw [h1];decide),h2];rfl
structure Good (R:Int) (L d:Nat) (l:List Sl.Instr):Prop where
 fit:∀ i∈l,tI i R=true
 len:l.length≤L
 dv:We l≤d
theorem AK (l m:List Sl.Instr):We (l++m)=We l+We m:=by unfold We;rw [List.filter_append,aB]
theorem Good.nil (R:Int):Good R 0 0 []:=⟨fun i h=>(by cases h),aI _,aI _⟩
abbrev iJ:=@Good.nil
theorem Good.append {R:Int} {L d L' d':Nat} {l m:List Sl.Instr} (h:Good R L d l) (k:Good R L' d' m):Good R (L+L') (d+d') (l++m):=
 ⟨fun i hi=>(gW.1 hi).elim (h.fit i) (k.fit i),by rw [aB];have:=h.len;have:=k.len;omega,by rw [AK];have:=h.dv;have:=k.dv;omega⟩
theorem Good.mono {R:Int} {L d L' d':Nat} {l:List Sl.Instr} (h:Good R L d l) (h1:L≤L') (h2:d≤d'):Good R L' d' l:=⟨h.fit,bO h.len h1,bO h.dv h2⟩
theorem Good.one {R:Int} {i:Sl.Instr} (h:tI i R=true):Good R 1 (if AD i then 1 else 0) [i]:=
 ⟨fun j hj=>by rw [eM.1 hj];exact h,aI _,by unfold We;by_cases hd:AD i <;> simp [hd]⟩
abbrev pG:=@Good.one
theorem FY {op to a b R:Int} (ho:op=3∨op=4) (h1:0≤to∧to<R) (h2:0≤a∧a<R) (h3:0≤b∧b<R):tI ⟨op,to,a,b,0⟩ R=true:=by
 unfold tI;rw [aW,aW,aV,eN];refine ⟨⟨(show 1≤op∧op≤8∧0≤to∧to<R∧(op=3∨op=4∨b=0) by omega),?_⟩,fun r hr=>?_⟩
 · unfold tK;rw [aD (show ¬(op=5∨op=6) by omega),aD (show ¬(op=7∨op=8) by omega)];rfl
 rw [aV];unfold tM at hr;rw [aE (show op=3∨op=4 from ho)] at hr;rcases iU.1 hr with rfl | hr
 · exact h2
 rw [eM.1 hr];exact h3
theorem Fs {op to a R:Int} (ho:op=1∨op=2) (h1:0≤to∧to<R) (h2:0≤a∧a<R):tI ⟨op,to,a,0,0⟩ R=true:=by
 unfold tI;rw [aW,aW,aV,eN];refine ⟨⟨(show 1≤op∧op≤8∧0≤to∧to<R∧(op=3∨op=4∨(0:Int)=0) by omega),?_⟩,fun r hr=>?_⟩
 · unfold tK;rw [aD (show ¬(op=5∨op=6) by omega),aD (show ¬(op=7∨op=8) by omega)];rfl
 rw [aV];unfold tM at hr;rw [aD (show ¬(op=3∨op=4) by omega),aE (show 1≤op∧op≤8 by omega)] at hr;rw [eM.1 hr];exact h2
theorem Ll {op to a c R:Int} (ho:op=5∨op=6) (h1:0≤to∧to<R) (h2:0≤a∧a<R) (hc:c≠0∧-512≤c∧c≤512):tI ⟨op,to,a,0,c⟩ R=true:=by
 unfold tI;rw [aW,aW,aV,eN];refine ⟨⟨(show 1≤op∧op≤8∧0≤to∧to<R∧(op=3∨op=4∨(0:Int)=0) by omega),?_⟩,fun r hr=>?_⟩
 · unfold tK;rw [aE (show op=5∨op=6 from ho),aV];exact hc
 rw [aV];unfold tM at hr;rw [aD (show ¬(op=3∨op=4) by omega),aE (show 1≤op∧op≤8 by omega)] at hr;rw [eM.1 hr];exact h2
theorem Jr {R to a b:Int} (h1:0≤to∧to<R) (h2:0≤a∧a<R) (h3:0≤b∧b<R):Good R 1 0 [⟨3,to,a,b,0⟩]:=(pG (FY (.inl F9) h1 h2 h3)).mono (aI _) (nK (aD (show ¬((3:Int)=6∨(3:Int)=8) by decide)))
theorem Ex {R to a b:Int} (h1:0≤to∧to<R) (h2:0≤a∧a<R) (h3:0≤b∧b<R):Good R 1 0 [⟨4,to,a,b,0⟩]:=(pG (FY (.inr F9) h1 h2 h3)).mono (aI _) (nK (aD (show ¬((4:Int)=6∨(4:Int)=8) by decide)))
theorem vM {R to x c:Int} (h1:0≤to∧to<R) (h2:0≤x∧x<R) (hc:-512≤c∧c≤512):Good R 1 0 (tE to x c):=by
 unfold tE;split
 · exact Ex h1 h2 h2
 rename_i h0;split
 · exact (iJ R).mono sW sW
 split
 · exact (pG (Fs (.inl F9) h1 h2)).mono (aI _) (nK (aD (show ¬((1:Int)=6∨(1:Int)=8) by decide)))
 split
 · exact (pG (Fs (.inr F9) h1 h2)).mono (aI _) (nK (aD (show ¬((2:Int)=6∨(2:Int)=8) by decide)))
 exact (pG (Ll (.inl F9) h1 h2 ⟨h0,hc⟩)).mono (aI _) (nK (aD (show ¬((5:Int)=6∨(5:Int)=8) by decide)))
theorem Ty {R to c:Int} (h1:0≤to∧to<R) (h0:c≠0) (hc:-512≤c∧c≤512):Good R 1 (if c=1 then 0 else 1) (xW to c):=by
 unfold xW;split
 · exact (iJ R).mono sW sW
 split
 · exact (pG (Fs (.inr F9) h1 h1)).mono (aI _) So
 exact (pG (Ll (.inr F9) h1 h1 ⟨h0,hc⟩)).mono (aI _) So
theorem Tz {R to c:Int} (h1:0≤to∧to<R) (h0:c≠0) (hc:-512≤c∧c≤512):∀ m:Nat,Good R m (if c=1 then 0 else m) (List.replicate m (xW to c)).flatten
 | 0=>(iJ R).mono (aI _) (aN _)
 | m+1=>by
   rw [oR,sF];refine ((Ty h1 h0 hc).append (Tz h1 h0 hc m)).mono sW ?_;split <;> omega
theorem Lm {R to c:Int} (h1:0≤to∧to<R) (hc:-512≤c∧c≤512):∀ (e:Nat) (fr k:Int),0≤fr∧fr<R→-512≤k∧k≤512→Good R (e+1) 0 (Qb to c fr k e)
 | 0,fr,k,h2,hk=>vM h1 h2 hk
 | e+1,fr,k,h2,hk=>by
   unfold Qb;split
   · exact ((vM h1 h2 hk).append (Lm h1 hc e to c h1 hc)).mono sW sW
   exact (Lm h1 hc e fr (k*c) h2 sW).mono sW sW
theorem JP {R to a c:Int} (h1:0≤to∧to<R) (h2:0≤a∧a<R) (hc:-512≤c∧c≤512) (e:Nat):Good R (e+1) 0 (Am to a c e):=by
 unfold Am;split
 · refine (vM h1 h2 ?_).mono sW sW;split <;> omega
 exact Lm h1 hc e a 1 h2 sW
theorem FZ {u v a b:Int} (h:u.natAbs+v.natAbs≤17) (hn:near a b):-512≤u*a+v*b∧u*a+v*b≤512:=by
 unfold near at hn;have h1:(u*a).natAbs≤u.natAbs*16:=by rw [gG];exact oQ _ sW
 have h2:(v*b).natAbs≤v.natAbs*16:=by rw [gG];exact oQ _ sW
 omega
theorem UQ {a b c d:Int} (h:near a b) (k:near c d):-512≤a*d - c*b∧a*d - c*b≤512:=by
 unfold near at h k;have h1:(a*d).natAbs≤16*16:=by rw [gG];exact gV sW sW
 have h2:(c*b).natAbs≤16*16:=by rw [gG];exact gV sW sW
 omega
structure Wh (wh:List R2) (o:List Int):Prop where
 near:∀ k∈o,near (vE wh k).a (vE wh k).b
 cop:∀ k∈o,Int.gcd (vE wh k).a (vE wh k).b=1
 bez:∀ k∈o,bezS (vE wh k).a (vE wh k).b*(vE wh k).a+bezT (vE wh k).a (vE wh k).b*(vE wh k).b=1
 small:∀ k∈o,(bezS (vE wh k).a (vE wh k).b).natAbs+(bezT (vE wh k).a (vE wh k).b).natAbs≤17
 det:∀ k∈o,∀ i∈o,k≠i→An wh k i≠0
theorem Wh.tail {wh:List R2} {k:Int} {o:List Int} (h:Wh wh (k :: o)):Wh wh o:=
 ⟨fun i hi=>h.near i (bA _ hi),fun i hi=>h.cop i (bA _ hi),fun i hi=>h.bez i (bA _ hi),fun i hi=>h.small i (bA _ hi),
  fun k hk i hi=>h.det k (bA _ hk) i (bA _ hi)⟩
theorem Wi {n:Int} {wh:List R2} {k i:Int} (e:Nat) (hk:0≤k∧k<n) (hi:0≤i∧i<n) (h1:near (vE wh k).a (vE wh k).b) (h2:near (vE wh i).a (vE wh i).b) (h3:(bezS (vE wh k).a (vE wh k).b).natAbs+(bezT (vE wh k).a (vE wh k).b).natAbs≤17) (h4:An wh k i≠0) :
 Good (3*n+1) (e+3) 1 (Cb n wh k e i):=by
 have hl:=FZ h3 h2;have hd:=UQ h1 h2;unfold Cb;have e1:Good (3*n+1) (e+2) 0 (if Br wh k i≠0∨e=0 then Am (3*n) k (Br wh k i) e++[⟨4,i,i,3*n,0⟩] else []):=by
  split
  · exact (JP sW sW hl e).append (Ex sW sW sW)
  exact (iJ _).mono sW sW
 have e2:Good (3*n+1) 1 1 (if An wh k i=1 then [] else xW i (An wh k i)):=by
  split
  · exact (iJ _).mono sW sW
  exact (Ty sW h4 hd).mono (aI _) So
 exact (e1.append e2).mono sW sW
theorem Qg {n:Int} {wh:List R2} {k:Int} (e:Nat) (hk:0≤k∧k<n) (h1:near (vE wh k).a (vE wh k).b) (h3:(bezS (vE wh k).a (vE wh k).b).natAbs+(bezT (vE wh k).a (vE wh k).b).natAbs≤17) :
 ∀ left:List Int,(∀ i∈left,0≤i∧i<n)→(∀ i∈left,near (vE wh i).a (vE wh i).b∧An wh k i≠0)→Good (3*n+1) (left.length*(e+3)) left.length (yX n wh k e left)
 | [],_,_=>(iJ _).mono (aN _) (aN _)
 | i :: left,hi,h=>by
   have h5:=h i bF;refine ((Wi e hk (hi i bF) h1 h5.1 h3 h5.2).append (Qg e hk h1 h3 left (fun j hj=>hi j (bA _ hj)) (fun j hj=>h j (bA _ hj)))).mono ?_ ?_
   · rw [aY,sC];omega
   rw [aY];omega
def kh:Nat→Nat
 | 0=>0
 | m+1=>m+kh m
theorem Dl {n:Int} {wh:List R2}:∀ o:List Int,o.length≤15→(∀ i∈o,0≤i∧i<n)→o.Nodup→Wh wh o→Good (3*n+1) (238*o.length) (kh o.length) (yY n wh o)
 | [],_,_,_,_=>(iJ _).mono (aN _) (aN _)
 | k :: left,hl,hr,hn,hw=>by
   obtain ⟨hn1,hn2⟩:=qU.1 hn;rw [aY] at hl;have h1:=Qg (n:=n) (wh:=wh) left.length (hr k bF) (hw.near k bF) (hw.small k bF) left (fun i hi=>hr i (bA _ hi)) (fun i hi=>⟨hw.near i (bA _ hi),hw.det k bF i (bA _ hi) (fun e=>hn1 (e▸hi))⟩);have h2:=Dl left sW (fun i hi=>hr i (bA _ hi)) hn2 hw.tail;refine (h1.append h2).mono ?_ ?_
   · rw [aY];have:left.length*(left.length+3)≤14*17:=gV sW sW;omega
   exact aI _
theorem DR {n u v:Int} {th:List Bool} {j:Nat} (hj:(j:Int)<n) (hu:-512≤u∧u≤512) (hv:-512≤v∧v≤512):Good (3*n+1) 3 0 (Bi n u v th j).2:=by
 unfold Bi;simp only;by_cases hj0:0<j
 · have h1:Good (3*n+1) 1 0 (tE (3*n) (2*n+(j - 1)) u):=vM sW sW hu;have h2:Good (3*n+1) 1 0 (tE (2*n+j) (2*n+j) v):=vM sW sW hv;have h3:Good (3*n+1) 1 0 (tE (2*n+j) (3*n) 1):=vM sW sW sW;have h4:Good (3*n+1) 1 0 [(⟨3,2*n+j,2*n+j,3*n,0⟩:Sl.Instr)]:=Jr sW sW sW;generalize (decide (0<j) && th[j - 1]?.getD false && decide (u≠0))=low;generalize (th[j]?.getD false && decide (v≠0))=own;cases low <;> cases own
   · exact (iJ _).mono sW sW
   · exact h2.mono sW sW
   · exact (h1.append h3).mono sW sW
   exact (h1.append (h2.append h4)).mono sW sW
 have h2:Good (3*n+1) 1 0 (tE (2*n+j) (2*n+j) v):=vM sW sW hv;rw [cD hj0];generalize (th[j]?.getD false && decide (v≠0))=own;cases own
 · exact (iJ _).mono sW sW
 exact h2.mono sW sW
theorem AL {n u v:Int} (hu:-512≤u∧u≤512) (hv:-512≤v∧v≤512):∀ (m:Nat) (th:List Bool),(m:Int)≤n→Good (3*n+1) (3*m) 0 (Tv n u v m th).2
 | 0,_,_=>iJ _
 | m+1,th,h=>((DR sW hu hv).append (AL hu hv m _ sW)).mono sW sW
theorem Ua {n u v:Int} (hu:-512≤u∧u≤512) (hv:-512≤v∧v≤512) (hn:n≤15):∀ (m d:Nat) (th:List Bool),((d+m:Nat):Int)≤n→Good (3*n+1) (45*m) 0 (Hr n u v m d th).2
 | 0,_,_,_=>iJ _
 | m+1,d,th,h=>((AL hu hv (d+1) th sW).append (Ua hu hv hn m (d+1) _ sW)).mono sW sW
theorem AM {n u v k:Int} {e:Nat} (hu:-512≤u∧u≤512) (hv:-512≤v∧v≤512) (hn:n≤15) (he:(e:Int)<n) (hk:0≤k∧k<n):Good (3*n+1) (1+45*e) 0 (zR n u v k e):=
 (vM sW sW sW).append (Ua hu hv hn e 1 _ sW)
theorem Ub {n:Int} {p:R2} (hp:near p.a p.b):∀ m:Nat,(m:Int)≤n→Good (3*n+1) (3*m) 0 (Wg n p m)
 | 0,_=>iJ _
 | j+1,h=>by
   unfold near at hp;unfold Wg;have h1:Good (3*n+1) 1 0 (if 0<j then tE (3*n) (n+((j:Int) - 1)) p.b else []):=by
    split
    · exact vM sW sW sW
    exact (iJ _).mono sW sW
   have h2:Good (3*n+1) 1 0 (tE (n+j) (n+j) p.a):=vM sW sW sW;have h3:Good (3*n+1) 1 0 (if 0<j then [(⟨4,n+j,n+j,3*n,0⟩:Sl.Instr)] else []):=by
    split
    · exact Ex sW sW sW
    exact (iJ _).mono sW sW
   exact (h1.append (h2.append (h3.append (Ub hp j sW)))).mono sW sW
theorem Mt {n:Int}:∀ (th:List Bool) (j:Nat),((j+th.length:Nat):Int)≤n→Good (3*n+1) th.length 0 (Cj n th j)
 | [],_,_=>iJ _
 | t :: th,j,h=>by
   rw [aY] at h;have h1:Good (3*n+1) 1 0 (if t then [(⟨3,n+j,n+j,2*n+j,0⟩:Sl.Instr)] else []):=by
    split
    · exact Jr sW sW sW
    exact (iJ _).mono sW sW
   exact (h1.append (Mt th (j+1) sW)).mono Mg sW
theorem JQ {n:Int} {wh:List R2} {k:Int} {e:Nat} (hn:n≤15) (h1:1≤e) (he:(e:Int)<n) (hk:0≤k∧k<n) (hp:near (vE wh k).a (vE wh k).b) (hs:(bezS (vE wh k).a (vE wh k).b).natAbs+(bezT (vE wh k).a (vE wh k).b).natAbs≤17):Good (3*n+1) 700 0 (xX n wh k e):=by
 have a1:=vM (R:=3*n+1) (to:=n+e) (x:=n+((e:Int) - 1)) (c:=-(vE wh k).b) sW sW Xu;have a2:=Ub (n:=n) hp e sW;have a3:=AM (n:=n) (u:=bezS (vE wh k).a (vE wh k).b) (v:=bezT (vE wh k).a (vE wh k).b) (k:=k) (e:=e) sW sW hn he hk;have a4:=Mt (n:=n) (yC n (bezS (vE wh k).a (vE wh k).b) (bezT (vE wh k).a (vE wh k).b) e) 0 (by rw [zW];omega);have hl:=zW n (bezS (vE wh k).a (vE wh k).b) (bezT (vE wh k).a (vE wh k).b) e;exact ((a1.append a2).append (a3.append a4)).mono (by rw [hl];omega) sW
theorem Dm {n:Int} {wh:List R2} (hn:n≤15):∀ o:List Int,(o.length:Int)≤n→(∀ i∈o,0≤i∧i<n)→Wh wh o→Good (3*n+1) (700*o.length) 0 (vT n wh o)
 | [],_,_,_=>iJ _
 | [k],_,hr,_=>by
   have:=hr k bF;exact (vM sW sW sW).mono uE (aI _)
 | k :: i :: left,hl,hr,hw=>by
   rw [aY] at hl;have h1:=Dm hn (i :: left) sW (fun j hj=>hr j (bA _ hj)) hw.tail;have h2:=JQ (n:=n) (wh:=wh) (k:=k) (e:=(i :: left).length) hn uE sW (hr k bF) (hw.near k bF) (hw.small k bF);exact (h1.append h2).mono (by rw [aY (a:=k)];omega) sW
def Ao (m:Nat):List R2→Nat→List Sl.Instr
 | [],_=>[]
 | p :: l,k=>(List.replicate m (xW k (Int.gcd p.a p.b))).flatten++Ao m l (k+1)
def tS (p:R2):R2:=⟨p.a.tdiv (Int.gcd p.a p.b),p.b.tdiv (Int.gcd p.a p.b)⟩
def Js (l:List R2) (o:List Int):List Sl.Instr:=Ao (l.length - 1) l 0++(yY l.length (l.map tS) o++vT l.length (l.map tS) o)
def madeP (l:List R2) (o:List Int):PV:=⟨l.length,3*l.length+1,Js l o,(List.range l.length).map fun j:Nat=>(l.length:Int)+j⟩
theorem Ey {p:R2} (h:Nr p):1≤Int.gcd p.a p.b∧Int.gcd p.a p.b≤16:=by
 obtain ⟨h1,h2⟩:=h;have hg0:0<Int.gcd p.a p.b:=Nat.pos_of_ne_zero fun h1=>h2 (Int.gcd_eq_zero_iff.mp h1);refine ⟨hg0,?_⟩;unfold near at h1;by_cases ha:p.a=0
 · have hb:p.b≠0:=fun hb=>h2 ⟨ha,hb⟩;have:=rS sW (show Int.gcd p.a p.b ∣ p.b.natAbs from Nat.gcd_dvd_right _ _);omega
 have:=rS sW (show Int.gcd p.a p.b ∣ p.a.natAbs from Nat.gcd_dvd_left _ _);omega
theorem Dn {n:Int} (m:Nat):∀ (l:List R2) (k:Nat),((k+l.length:Nat):Int)≤n→(∀ p∈l,Nr p)→Good (3*n+1) (l.length*m) (m*Li l) (Ao m l k)
 | [],_,_,_=>(iJ _).mono (aN _) (aN _)
 | p :: l,k,h,hp=>by
   rw [aY] at h;have hg:=Ey (hp p bF);have h1:=Tz (R:=3*n+1) (to:=(k:Int)) (c:=(Int.gcd p.a p.b:Int)) sW sW sW m;have h2:=Dn (n:=n) m l (k+1) sW (fun q hq=>hp q (bA _ hq));refine (h1.append h2).mono ?_ ?_
   · rw [aY,sC];omega
   have e:Li (p :: l)=(if Int.gcd p.a p.b=1 then 0 else 1)+Li l:=by
    unfold Li;rw [List.filter_cons];by_cases hh:Int.gcd p.a p.b=1
    · rw [aD (by simp [hh]),aE hh,cS]
    rw [aE (by simp [hh]),aD hh,aY,Nat.add_comm]
   rw [e,Nat.mul_add];by_cases hh:Int.gcd p.a p.b=1
   · rw [aE (by omega),aE hh];omega
   rw [aD (by omega),aD hh];omega
theorem GA (l:List R2) {k:Int} (h0:0≤k) (h:k<l.length):vE (l.map tS) k=tS (l[k.toNat]?.getD default):=by
 unfold vE;rw [bK,aA (show k.toNat<l.length by omega)];rfl
theorem xL {p:R2} (h:Nr p):p.a=Int.gcd p.a p.b*(tS p).a∧p.b=Int.gcd p.a p.b*(tS p).b∧Int.gcd (tS p).a (tS p).b=1∧Nr (tS p):=by
 obtain ⟨g1,g2⟩:=Ey h;have e1:p.a.tdiv (Int.gcd p.a p.b)*Int.gcd p.a p.b=p.a:=kO (sU p.a p.b);have e2:p.b.tdiv (Int.gcd p.a p.b)*Int.gcd p.a p.b=p.b:=kO (sJ p.a p.b);have q1:=xJ p.a (Int.gcd p.a p.b);have q2:=xJ p.b (Int.gcd p.a p.b);refine ⟨by rw [cJ];exact e1.symm,by rw [cJ];exact e2.symm,?_,?_,?_⟩
 · show Nat.gcd (p.a.tdiv (Int.gcd p.a p.b)).natAbs (p.b.tdiv (Int.gcd p.a p.b)).natAbs=1;rw [show (p.a.tdiv (Int.gcd p.a p.b)).natAbs=p.a.natAbs / Int.gcd p.a p.b from mY _ _,show (p.b.tdiv (Int.gcd p.a p.b)).natAbs=p.b.natAbs / Int.gcd p.a p.b from mY _ _];exact Nat.coprime_div_gcd_div_gcd g1
 · have h1:=h.1;unfold near at *;show _≤p.a.tdiv _∧p.a.tdiv _≤_∧_≤p.b.tdiv _∧p.b.tdiv _≤_;omega
 intro ⟨z1,z2⟩;apply h.2;have z1:p.a.tdiv (Int.gcd p.a p.b)=0:=z1;have z2:p.b.tdiv (Int.gcd p.a p.b)=0:=z2;rw [z1,eV] at e1;rw [z2,eV] at e2;exact ⟨e1.symm,e2.symm⟩
theorem PC {l:List R2} (hR:uG l) {i j:Nat} (hij:i<j) (hj:j<l.length):(l[i]?.getD default).a*(l[j]?.getD default).b - (l[j]?.getD default).a*(l[i]?.getD default).b≠0:=by
 obtain ⟨h1,h2,h3,h4⟩:=hR;intro h;apply h4;obtain ⟨p1,p2⟩:=h3 i sW;obtain ⟨q1,q2⟩:=h3 j hj;refine ⟨j,hj,i,hij,p1,q1,(NT _ _ _ _).2 ?_⟩;unfold TM;rw [aD (fun h=>h.elim p2 q2)];exact h
theorem Qh {l:List R2} (hR:uG l) {o:List Int} (ho:∀ k∈o,0≤k∧k<l.length):Wh (l.map tS) o:=by
 have hok:∀ k∈o,Nr (l[k.toNat]?.getD default):=fun k hk=>hR.2.2.1 _ (by have:=ho k hk;omega);have hpt:∀ k∈o,vE (l.map tS) k=tS (l[k.toNat]?.getD default):=fun k hk=>GA l (ho k hk).1 (ho k hk).2;have hb:∀ k∈o,bezS (vE (l.map tS) k).a (vE (l.map tS) k).b*(vE (l.map tS) k).a+bezT (vE (l.map tS) k).a (vE (l.map tS) k).b*(vE (l.map tS) k).b=1∧(bezS (vE (l.map tS) k).a (vE (l.map tS) k).b).natAbs+(bezT (vE (l.map tS) k).a (vE (l.map tS) k).b).natAbs≤17:=fun k hk=>by
  rw [hpt k hk];obtain ⟨_,_,w3,w4⟩:=xL (hok k hk);obtain ⟨b1,b2,_⟩:=Fq w4.1 w4.2;rw [w3] at b1;exact ⟨b1,b2⟩
 refine ⟨fun k hk=>by rw [hpt k hk];exact (xL (hok k hk)).2.2.2.1,fun k hk=>by rw [hpt k hk];exact (xL (hok k hk)).2.2.1,fun k hk=>(hb k hk).1,fun k hk=>(hb k hk).2,fun k hk i hi hne=>?_⟩;have hd:((l[k.toNat]?.getD default).a*(l[i.toNat]?.getD default).b - (l[i.toNat]?.getD default).a*(l[k.toNat]?.getD default).b)≠0:=by
  have h1:=ho k hk;have h2:=ho i hi;rcases aK k.toNat i.toNat with h | h
  · exact PC hR h sW
  have:=PC hR (show i.toNat<k.toNat by omega) sW;intro h3;apply this;omega
 intro h0;apply hd;unfold An at h0;rw [hpt k hk,hpt i hi] at h0;obtain ⟨a1,a2,_⟩:=xL (hok k hk);obtain ⟨c1,c2,_⟩:=xL (hok i hi);generalize (l[k.toNat]?.getD default)=p at *;generalize (l[i.toNat]?.getD default)=q at *;have key:p.a*q.b - q.a*p.b=((tS p).a*(tS q).b - (tS q).a*(tS p).b)*((Int.gcd p.a p.b:Int)*(Int.gcd q.a q.b:Int)):=by
  rw [kU];calc p.a*q.b - q.a*p.b=(Int.gcd p.a p.b*(tS p).a)*(Int.gcd q.a q.b*(tS q).b) - (Int.gcd q.a q.b*(tS q).a)*(Int.gcd p.a p.b*(tS p).b):=by rw [←a1,←a2,←c1,←c2]
   _=_:=by congr 1 <;> ac_rfl
 rw [key,h0,eV]
theorem Ln {l:List R2} {o:List Int} (hR:uG l) (ho:Bj o l.length):Good (3*l.length+1) 16384 (kh l.length+(l.length - 1)*Li l) (Js l o):=by
 obtain ⟨o1,o2,o3⟩:=ho;have hl:=hR.2.1;have hw:=Qh hR o2;have hok:∀ p∈l,Nr p:=fun p hp=>by
  obtain ⟨i,hi,rfl⟩:=gF.1 hp;have:=hR.2.2.1 i hi;rw [aA hi] at this;exact this
 have h1:=Dn (n:=l.length) (l.length - 1) l 0 sW hok;have h2:=Dl (n:=l.length) (wh:=l.map tS) o sW o2 o3 hw;have h3:=Dm (n:=l.length) (wh:=l.map tS) sW o sW o2 hw;refine (h1.append (h2.append h3)).mono ?_ ?_
 · have:l.length*(l.length - 1)≤15*14:=gV sW sW;omega
 rw [o1];omega
theorem Hs {l:List R2} {o:List Int} (hR:uG l) (ho:Bj o l.length):sY (madeP l o)=true:=by
 have hg:=Ln hR ho;have hl:=hR.1;have hl2:=hR.2.1;refine Lk ⟨?_,?_,?_,hg.len,?_,?_⟩ ?_ hg.fit
 · show (1:Int)≤l.length;omega
 · show (l.length:Int)≤3*l.length+1;omega
 · show (3*l.length+1:Int)≤128;omega
 · show 1≤((List.range l.length).map _).length;rw [aP,cB];exact hl
 · show ((List.range l.length).map _).length≤128;rw [aP,cB];omega
 intro r hr;obtain ⟨j,hj,rfl⟩:=dY.1 hr;have:=iO.1 hj;show 0≤(l.length:Int)+j∧(l.length:Int)+j<3*l.length+1;omega
def CB:List Sl.Instr→List Int→Option (List Int)
 | [],rs=>some rs
 | i :: l,rs=>(Af i rs).bind fun x=>CB l (rs.set i.to.toNat x)
theorem PD (l:List Sl.Instr) (i:Sl.Instr) (rs:List Int):CB (l++[i]) rs=(CB l rs).bind fun r=>(Af i r).map fun x=>r.set i.to.toNat x:=by
 induction l generalizing rs with
 | nil =>
   show (Af i rs).bind (fun x=>some (rs.set i.to.toNat x))=(Af i rs).map _;cases Af i rs <;> rfl
 | cons j l ih =>
   show (Af j rs).bind (fun x=>CB (l++[i]) (rs.set j.to.toNat x))=((Af j rs).bind fun x=>CB l (rs.set j.to.toNat x)).bind _;cases Af j rs with
   | none=>rfl
   | some x=>exact ih _
theorem Do (p:PV) (zs:List Int):∀ k,k≤p.code.length→Vz p zs k=CB (p.code.take k) zs
 | 0,_=>by rw [bQ];rfl
 | k+1,hk=>by
   have htk:p.code.take (k+1)=p.code.take k++[p.code[(k:Int).toNat]?.getD default]:=by
    rw [cG,aF,aA sW];rfl
   rw [htk,PD,←Do p zs k sW];rfl
def Cm (j:Nat) (rs:List (List Int)):List Int:=rs.map fun r=>r[j]?.getD 0
def Flat (N:Nat) (rs:List (List Int)):Prop:=∀ r∈rs,r.length=N
theorem yZ (j:Nat) (rs:List (List Int)):(Cm j rs).length=rs.length:=by unfold Cm;rw [aP]
theorem Fa {j k:Nat} {rs:List (List Int)}:(Cm j rs)[k]?.getD 0=(rs[k]?.getD [])[j]?.getD 0:=by
 unfold Cm;rw [bK];cases rs[k]? <;> rfl
theorem Nw (j k:Nat) (rs:List (List Int)) (x:List Int):Cm j (rs.set k x)=(Cm j rs).set k (x[j]?.getD 0):=by
 unfold Cm;rw [List.map_set]
theorem Cc {N k:Nat} {rs:List (List Int)} (h:Flat N rs) (hk:k<rs.length):(rs[k]?.getD []).length=N:=by
 rw [aA hk];exact h _ (bZ hk)
theorem Qi {l:List Int} {f:Int→Int} {j:Nat} (h:j<l.length):(l.map f)[j]?.getD 0=f (l[j]?.getD 0):=by
 rw [bK,aA h];rfl
theorem AN {l m:List Int} {f:Int→Int→Int} {j:Nat} (h:j<l.length) (h2:j<m.length):(List.zipWith f l m)[j]?.getD 0=f (l[j]?.getD 0) (m[j]?.getD 0):=by
 rw [List.getElem?_zipWith,aA h,aA h2];rfl
theorem GB {i:Sl.Instr} {rs:List (List Int)} {N:Nat} (he:Flat N rs) (ha:i.a.toNat<rs.length) (hb:i.op=3∨i.op=4→i.b.toNat<rs.length) :
 (∀ x,xU i rs=some x→x.length=N∧∀ j,j<N→Af i (Cm j rs)=some (x[j]?.getD 0))∧(xU i rs=none→∃ j,j<N∧Af i (Cm j rs)=none):=by
 have la:=Cc he ha;unfold xU Af;simp only [Fa];by_cases h2:i.op=2
 · simp only [aE h2];refine ⟨fun x h=>?_,fun h=>by cases h⟩;cases h;refine ⟨by rw [aP];exact la,fun j hj=>?_⟩;rw [Qi sW,gR,dW]
 simp only [aD h2];by_cases h3:i.op=3
 · have lb:=Cc he (hb (.inl h3));simp only [aE h3];refine ⟨fun x h=>?_,fun h=>by cases h⟩;cases h;refine ⟨by rw [iX];omega,fun j hj=>?_⟩;rw [AN sW sW,dW]
 simp only [aD h3];by_cases h4:i.op=4
 · have lb:=Cc he (hb (.inr h4));simp only [aE h4];refine ⟨fun x h=>?_,fun h=>by cases h⟩;cases h;refine ⟨by rw [iX];omega,fun j hj=>?_⟩;rw [AN sW sW,gR,dW];rfl
 simp only [aD h4];by_cases h5:i.op=5∨i.op=7
 · simp only [aE h5];refine ⟨fun x h=>?_,fun h=>by cases h⟩;cases h;refine ⟨by rw [aP];exact la,fun j hj=>?_⟩;rw [Qi sW,cJ]
 simp only [aD h5];by_cases h6:i.op=6∨i.op=8
 · simp only [aE h6];by_cases hd:zJ (cst i) (rs[i.a.toNat]?.getD [])
   · rw [aE hd];refine ⟨fun x h=>?_,fun h=>by cases h⟩;cases h;refine ⟨by rw [aP];exact la,fun j hj=>?_⟩;rw [aE (hd j sW),Qi sW]
   rw [aD hd];refine ⟨fun x h=>(by cases h),fun _=>?_⟩;unfold zJ at hd;rw [Classical.not_forall] at hd;obtain ⟨j,hd⟩:=hd;rw [Classical.not_imp] at hd;exact ⟨j,by omega,aD hd.2⟩
 simp only [aD h6];refine ⟨fun x h=>?_,fun h=>by cases h⟩;cases h;exact ⟨la,fun j hj=>rfl⟩
theorem flat_set {N k:Nat} {rs:List (List Int)} {x:List Int} (h:Flat N rs) (hx:x.length=N):Flat N (rs.set k x):=fun r hr=>by
 rcases fI hr with h1 | h1
 · exact h r h1
 rw [h1];exact hx
def DS (n:Nat) (i:Sl.Instr):Prop:=i.a.toNat<n∧(i.op=3∨i.op=4→i.b.toNat<n)
theorem AO {N:Nat}:∀ (l:List Sl.Instr) (rs:List (List Int)),Flat N rs→(∀ i∈l,DS rs.length i)→
 (∀ r',yU l rs=some r'→Flat N r'∧r'.length=rs.length∧∀ j,j<N→CB l (Cm j rs)=some (Cm j r'))∧(yU l rs=none→∃ j,j<N∧CB l (Cm j rs)=none)
 | [],rs,he,_=>⟨fun r' h=>by cases h;exact ⟨he,F9,fun j _=>rfl⟩,fun h=>by cases h⟩
 | i :: l,rs,he,hi=>by
   obtain ⟨h1,h2⟩:=GB he (hi i uE).1 (hi i uE).2;unfold yU CB;cases hd:xU i rs with
   | none =>
     refine ⟨fun r' h=>(by cases h),fun _=>?_⟩;obtain ⟨j,hj,hz⟩:=h2 hd;exact ⟨j,hj,by rw [hz];rfl⟩
   | some x =>
     obtain ⟨hx,hc⟩:=h1 x hd;obtain ⟨g1,g2⟩:=AO l (rs.set i.to.toNat x) (flat_set he hx) (fun q hq=>by rw [aG];exact hi q (by simp [hq]));refine ⟨fun r' h=>?_,fun h=>?_⟩
     · obtain ⟨k1,k2,k3⟩:=g1 r' h;refine ⟨k1,by rw [k2,aG],fun j hj=>?_⟩;rw [hc j hj];show CB l ((Cm j rs).set i.to.toNat (x[j]?.getD 0))=_;rw [←Nw];exact k3 j hj
     obtain ⟨j,hj,hz⟩:=g2 h;refine ⟨j,hj,?_⟩;rw [hc j hj];show CB l ((Cm j rs).set i.to.toNat (x[j]?.getD 0))=_;rw [←Nw];exact hz
theorem DT {i:Sl.Instr} {regs:Int} {n:Nat} (h:tI i regs=true) (hn:(n:Int)=regs):DS n i:=by
 obtain ⟨m1,m2,m3,m4,m5⟩:=tY h;exact ⟨by omega,fun h34=>by have:=m4 h34;omega⟩
theorem Lo {p:PV} {gs:List (List Int)} {N:Nat} (hN:Flat N gs) (h1:1≤gs.length):Flat N (vN p gs):=fun r hr=>by
 unfold vN at hr;obtain ⟨k,_,rfl⟩:=dY.1 hr;split
 · rename_i hk;exact Cc hN hk
 rw [aJ];exact Cc hN h1
theorem Jt {p:PV} {gs:List (List Int)} (hz:gs.length≤p.regs.toNat) (j:Nat):Cm j (vN p gs)=wC p (Cm j gs):=by
 apply hS;intro k;have hl:(wC p (Cm j gs)).length=p.regs.toNat:=by unfold wC;rw [aB,aJ,yZ];omega
 have hl2:(Cm j (vN p gs)).length=p.regs.toNat:=by rw [yZ,vY]
 rcases aK k p.regs.toNat with hk | hk
 · have e:∀ (l:List Int),k<l.length→l[k]?=some (l[k]?.getD 0):=fun l h=>by rw [aA h];rfl
   rw [e _ sW,e (wC p (Cm j gs)) sW];congr 1;rw [Fa,Er hk];unfold wC;split
   · rename_i h;rw [bJ (by rw [yZ];exact h),Fa]
   rename_i h;rw [cL (by rw [yZ];omega),yZ];have e0:∀ (n m:Nat),(List.replicate n (0:Int))[m]?.getD 0=0:=fun n m=>by
    rw [fW];split <;> rfl
   rw [e0,e0]
 rw [cA sW,cA sW]
theorem Fb {p:PV} {gs os:List (List Int)} {N:Nat} (hR:sY p=true) (hg:(gs.length:Int)=p.ins) (hN:Flat N gs) (ho:os.length=p.outs.length) (hf:Flat N os)
 (h:∀ j,j<N→Du p (Cm j gs)=some (Cm j os)):tJ p gs=some os:=by
 obtain ⟨f1,f2,f3,f4,f5,f6,f7,f8⟩:=tB hR;have hfp:=Lo (p:=p) hN sW;unfold tJ;rw [zK p gs _ (aI _),bD];have hq:=AO p.code (vN p gs) hfp (fun i hi=>DT (f8 i hi) (by rw [vY];omega));have h9:∀ j,j<N→(CB p.code (Cm j (vN p gs))).map (yW p)=some (Cm j os):=fun j hj=>by
  have h1:=h j hj;unfold Du at h1;rw [Do p _ _ (aI _),bD,←Jt sW] at h1;exact h1
 cases hr:yU p.code (vN p gs) with
 | none =>
   obtain ⟨j,hj,hz⟩:=hq.2 hr;have h1:=h9 j hj;rw [hz] at h1;cases h1
 | some s =>
   obtain ⟨q1,q2,q3⟩:=hq.1 s hr;show some (xI p s)=some os;congr 1;unfold xI;apply gD
   · rw [aP,ho]
   intro k g1 g2;rw [aP] at g1;rw [gB];have hrk:=f7 p.outs[k] (bZ g1);have ls:=Cc q1 (k:=p.outs[k].toNat) (by rw [q2,vY];omega);have lo:=hf _ (bZ g2);apply gD
   · omega
   intro j j1 j2;have h1:=h9 j sW;rw [q3 j sW] at h1;have h2:yW p (Cm j s)=Cm j os:=kB h1;have h3:=congrArg (fun l:List Int=>l[k]?.getD 0) h2;simp only [Fa] at h3;unfold yW at h3;rw [bK,aA g1,aA g2] at h3;simp only [fZ,eH,Fa] at h3;rw [aA j1,aA j2] at h3;exact h3
def Ag (R:Int) (σ:Int→Int) (rs:List Int):Prop:=∀ r,0≤r→r<R→σ r=rs[r.toNat]?.getD 0
theorem UR {i:Sl.Instr} {R:Int} {σ:Int→Int} {rs:List Int} (hm:tI i R=true) (h:Ag R σ rs):OW i σ=Af i rs:=by
 obtain ⟨m1,m2,m3,m4,m5⟩:=tY hm;unfold OW Af;simp only [h i.a m3.1 m3.2];by_cases h34:i.op=3∨i.op=4
 · have:=m4 h34;rw [h i.b this.1 this.2]
 have h3:¬i.op=3:=fun e=>h34 (.inl e);have h4:¬i.op=4:=fun e=>h34 (.inr e);simp only [h3,h4,lF]
theorem YN {R:Int} {σ:Int→Int} {rs:List Int} {t x:Int} (h:Ag R σ rs) (hl:(rs.length:Int)=R) (ht:0≤t∧t<R):Ag R (upd σ t x) (rs.set t.toNat x):=fun r h0 h1=>by
 rw [cI];by_cases hr:r=t
 · subst hr;rw [uT,aE rfl,aE (by omega)];rfl
 rw [uH _ _ hr,aD (by omega)];exact h r h0 h1
theorem Qj {R:Int}:∀ (l:List Sl.Instr) (σ σ':Int→Int) (rs:List Int),(∀ i∈l,tI i R=true)→(rs.length:Int)=R→Ag R σ rs→wD l σ=some σ'→∃ rs',CB l rs=some rs'∧(rs'.length:Int)=R∧Ag R σ' rs'
 | [],σ,σ',rs,_,hl,h,he=>by cases he;exact ⟨rs,F9,hl,h⟩
 | i :: l,σ,σ',rs,hm,hl,h,he=>by
   have hmi:=hm i bF;obtain ⟨m1,m2,m3⟩:=tY hmi;obtain ⟨x,hx,he2⟩:=qC.1 (show (OW i σ).bind (fun x=>wD l (upd σ i.to x))=some σ' from he);obtain ⟨rs',g1,g2,g3⟩:=Qj l (upd σ i.to x) σ' (rs.set i.to.toNat x) (fun j hj=>hm j (bA _ hj)) (by rw [aG];exact hl) (YN h hl m2) he2;refine ⟨rs',?_,g2,g3⟩;show (Af i rs).bind (fun x=>CB l (rs.set i.to.toNat x))=some rs';rw [←UR hmi h,hx];exact g1
theorem Mu (m:Nat) (v:Nat→Int):∀ (l:List R2) (k:Nat) (σ:Int→Int),(∀ p∈l,Int.gcd p.a p.b≠0)→(∀ i,i<l.length→σ ((k+i:Nat):Int)=(Int.gcd (l[i]?.getD default).a (l[i]?.getD default).b:Int) ^ m*v (k+i))→
 ∃ σ',wD (Ao m l k) σ=some σ'∧(∀ i,i<l.length→σ' ((k+i:Nat):Int)=v (k+i))∧∀ r:Int,r<k→σ' r=σ r
 | [],k,σ,_,_=>⟨σ,F9,fun i h=>by simp at h,fun _ _=>rfl⟩
 | p :: l,k,σ,hg,h=>by
   have h0:=h 0 uE;obtain ⟨σ',a1,a2,a3⟩:=Mu m v l (k+1) (upd σ (k:Int) (v k)) (fun q hq=>hg q (bA _ hq)) (fun i hi=>by
    have:=h (i+1) Mg;rw [uH _ _ sW,show k+1+i=k+(i+1) by omega];exact this)
   refine ⟨σ',uA (Tt (k:Int) (Int.gcd p.a p.b:Int) (by have:=hg p bF;omega) m σ (v k) h0) a1,fun i hi=>?_,fun r hr=>?_⟩
   · cases i with
     | zero =>
       show σ' ((k+0:Nat):Int)=v (k+0);rw [iH,a3 _ sW,uT]
     | succ i =>
       rw [aY] at hi;have:=a2 i sW;rw [show k+1+i=k+(i+1) by omega] at this;exact this
   rw [a3 r sW,uH _ _ sW]
theorem PE {l:List R2} {o:List Int} {f:List Int} (hR:uG l) (ho:Bj o l.length) (hf:f.length=l.length):Du (madeP l o) (l.map fun p=>ev f p.a p.b)=some f:=by
 have hg:=Ln hR ho;have hw:=Qh hR ho.2.1;have hl:=hR.1;have hok:∀ i,i<l.length→Nr (l[i]?.getD default):=hR.2.2.1;have hokm:∀ p∈l,Nr p:=fun p hp=>by
  obtain ⟨i,hi,rfl⟩:=gF.1 hp;have:=hok i hi;rw [aA hi] at this;exact this
 generalize hrs:wC (madeP l o) (l.map fun p=>ev f p.a p.b)=rs;have hzl:(l.map fun p=>ev f p.a p.b).length=l.length:=aP _;have hregs:(madeP l o).regs=3*l.length+1:=rfl;have hrl:(rs.length:Int)=3*l.length+1:=by
  rw [←hrs];unfold wC;rw [aB,aJ,hzl,hregs];omega
 have hr0:∀ i,i<l.length→rs[i]?.getD 0=ev f (l[i]?.getD default).a (l[i]?.getD default).b:=fun i hi=>by
  rw [←hrs];unfold wC;rw [bJ (by rw [hzl];exact hi),bK,aA hi];rfl
 obtain ⟨c,f',hcf⟩:∃ c f',f=c :: f':=by
  cases f with
  | nil=>rw [cH] at hf;omega
  | cons c f'=>exact ⟨c,f',F9⟩
 have hfl:f'.length=l.length - 1:=by rw [hcf,aY] at hf;omega
 obtain ⟨σ1,a1,a2,a3⟩:=Mu (l.length - 1) (fun i=>ev f (vE (l.map tS) (i:Int)).a (vE (l.map tS) (i:Int)).b) l 0 (fun r=>rs[r.toNat]?.getD 0) (fun p hp=>by have:=Ey (hokm p hp);omega) (fun i hi=>by
  simp only [cS];rw [aF,hr0 i hi,GA l sW sW,aF];obtain ⟨w1,w2,_⟩:=xL (hok i hi);have hgp:=Ey (hok i hi);generalize (l[i]?.getD default)=p at *;have:=UM (g:=(Int.gcd p.a p.b:Int)) (tS p).a (tS p).b c f' sW;rw [←w1,←w2,hfl,←hcf] at this;exact this)
 have hv:∀ k∈o,σ1 k=ev f (vE (l.map tS) k).a (vE (l.map tS) k).b:=fun k hk=>by
  have h1:=ho.2.1 k hk;have:=a2 k.toNat sW;simp only [cS] at this;rw [show ((k.toNat:Nat):Int)=k by omega] at this;exact this
 have hol:=ho.1;obtain ⟨σ2,b1,b2,b3⟩:=Tx (n:=l.length) (wh:=l.map tS) o f σ1 ho.2.2 (by intro e;rw [e,cH] at hol;omega) ho.2.1 sW (fun k hk=>⟨hw.cop k hk,hw.bez k hk⟩) hw.det sW hv;obtain ⟨rs',c1,c2,c3⟩:=Qj (Js l o) (fun r=>rs[r.toNat]?.getD 0) σ2 rs hg.fit hrl (fun r _ _=>rfl) (uA a1 b1);unfold Du;rw [Do _ _ _ (aI _),bD,hrs];show (CB (Js l o) rs).map (yW (madeP l o))=some f;rw [c1];show some (yW (madeP l o) rs')=some f;congr 1;unfold yW madeP;simp only;apply gD
 · rw [aP,aP,cB,hf]
 intro j g1 g2;rw [gB,gB,kY,←c3 _ sW sW,b2 j g2];unfold co;rw [aA g2];rfl
theorem AP {n j:Nat} (h:j<n) (a b:Int):ev (uU n j) a b=a ^ j*b ^ (n - 1 - j):=FU a b n j h
theorem Mv {l:List R2} {o:List Int} (hR:uG l) (ho:Bj o l.length):uP (madeP l o) l:=by
 have hpo:(madeP l o).outs.length=l.length:=by show ((List.range l.length).map _).length=_;rw [aP,cB]
 refine ⟨Hs hR ho,F9,hpo,?_⟩;have hul:∀ j,(uU l.length j).length=l.length:=fun j=>by unfold uU;rw [aG,aJ]
 refine Fb (N:=l.length) (Hs hR ho) (by rw [Dh];rfl) (fun r hr=>?_) (by rw [aP,cB,hpo]) (fun r hr=>?_) fun j hj=>?_
 · unfold xK at hr;obtain ⟨p,hp,rfl⟩:=dY.1 hr;unfold yE;rw [aP,cB]
 · obtain ⟨i,hi,rfl⟩:=dY.1 hr;exact hul i
 have e1:Cm j (xK l)=l.map fun p=>ev (uU l.length j) p.a p.b:=by
  unfold Cm xK;rw [qN];apply jL;intro p hp;show (yE p.a p.b l.length)[j]?.getD 0=_;rw [AP hj];unfold yE;rw [bK,fB hj];rfl
 have e2:Cm j ((List.range l.length).map (uU l.length))=uU l.length j:=by
  apply gD
  · rw [yZ,aP,cB,hul]
  intro i g1 g2;rw [yZ,aP,cB] at g1;have e3:∀ (a b:Nat),b<l.length→(uU l.length a)[b]?.getD 0=if a=b then 1 else 0:=fun a b hb=>by
   unfold uU;rw [cI,fW];by_cases hab:a=b
   · rw [aE hab,aE hab,aE (by rw [aJ];omega)];rfl
   rw [aD hab,aD hab,aE hb];rfl
  have e4:=e3 i j hj;have e5:=e3 j i g1;rw [aA g2] at e5;have e6:(Cm j ((List.range l.length).map (uU l.length)))[i]?.getD 0=(uU l.length i)[j]?.getD 0:=by
   rw [Fa,bK,fB g1];rfl
  rw [aA (by rw [yZ,aP,cB];exact g1)] at e6;simp only [eH] at e5 e6;rw [e6,e4,e5];by_cases hij:i=j
  · rw [aE hij,aE hij.symm]
  rw [aD hij,aD (fun h=>hij h.symm)]
 rw [e1,e2];exact PE hR ho (hul j)
theorem Bk {k1 k2:Int} {l:List R2} {x y z:PV} (h:(tW k1 k2 l x y z).2=0):tL k1 k2 l=0∧sY x=true∧vK x k1 l∧sY y=true∧vK y k2 l∧sY z=true∧uP z l:=by
 unfold tW at h;by_cases h1:tL k1 k2 l=0
 · rw [aD (fun g=>g h1)] at h;by_cases h2:sY x=true
   · rw [aD (fun g=>g h2)] at h;by_cases h3:vK x k1 l
     · rw [aD (fun g=>g h3)] at h;by_cases h4:sY y=true
       · rw [aD (fun g=>g h4)] at h;by_cases h5:vK y k2 l
         · rw [aD (fun g=>g h5)] at h;by_cases h6:sY z=true
           · rw [aD (fun g=>g h6)] at h;by_cases h7:uP z l
             · exact ⟨h1,h2,h3,h4,h5,h6,h7⟩
             rw [aE h7] at h;cases h
           rw [aE h6] at h;cases h
         rw [aE h5] at h;cases h
       rw [aE h4] at h;cases h
     rw [aE h3] at h;cases h
   rw [aE h2] at h;cases h
 rw [aE h1] at h;exact absurd h h1
def Kk (to a c:Int):List Sl.Instr:=
 if c=1 then (if to=a then [] else [⟨1,to,a,0,0⟩]) else if c=-1 then [⟨2,to,a,0,0⟩] else if wK c=0 then [⟨5,to,a,0,c⟩] else [⟨7,to,a,0,wK c⟩]
def Ju (to c:Int):Int→Nat→List Sl.Instr
 | _,0=>[]
 | a,n+1=>Kk to a c++Ju to c to n
def GD (to tm b j:Int) (n:Nat):List Sl.Instr:=
 if b=1∨(b=-1∧n % 2=0) then [⟨3,to,to,j,0⟩] else if b=-1 then [⟨4,to,to,j,0⟩] else Ju tm b j n++[⟨3,to,to,tm,0⟩]
def KT (k:Nat) (to tm a b:Int):Int→Nat→List Sl.Instr
 | _,0=>[]
 | fr,m+1=>Kk to fr a++(GD to tm b m (k - 1 - m)++KT k to tm a b to m)
def Bt (k n i:Nat) (q:R2):List Sl.Instr:=
 if k=1 then [] else if q.a=0∧q.b=0 then [⟨4,(k:Int)+i,0,0,0⟩] else if q.a=0 then Ju ((k:Int)+i) q.b 0 (k - 1)
 else if q.b=0 then Ju ((k:Int)+i) q.a ((k:Int) - 1) (k - 1) else KT k ((k:Int)+i) ((k:Int)+n) q.a q.b ((k:Int) - 1) (k - 1)
def AQ (k n:Nat):Nat→List R2→List Sl.Instr
 | _,[]=>[]
 | i,q :: l=>Bt k n i q++AQ k n (i+1) l
def JR (k i:Nat):Int:=if k=1 then 0 else (k:Int)+i
def evP (k:Nat) (l:List R2):PV:=⟨k,(k:Int)+l.length+1,AQ k l.length 0 l,(List.range l.length).map (JR k)⟩
theorem AR (k n:Nat) (q:R2):∀ (l:List R2) (i:Nat),AQ k n i (l++[q])=AQ k n i l++Bt k n (i+l.length) q
 | [],i=>by show Bt k n i q++[]=[]++_;rw [bB];rfl
 | p :: l,i=>by
   show Bt k n i p++AQ k n (i+1) (l++[q])=(Bt k n i p++AQ k n (i+1) l)++_;rw [AR k n q l (i+1),aR,aY,show i+1+l.length=i+(l.length+1) by omega]
theorem US {to a c:Int} (h:wK c≠0):cst ⟨7,to,a,0,wK c⟩=c:=by
 rcases Cp h with rfl | rfl | rfl | rfl | rfl | rfl | rfl | rfl | rfl <;> rfl
theorem Wj (to a c:Int) (σ:Int→Int):wD (Kk to a c) σ=some (upd σ to (c*σ a)):=by
 unfold Kk;by_cases h1:c=1
 · rw [aE h1,h1,dW];by_cases h2:to=a
   · rw [aE h2,h2,Jo];rfl
   rw [aD h2];rfl
 rw [aD h1];by_cases h3:c=-1
 · rw [aE h3,h3,gR,dW];rfl
 rw [aD h3];by_cases h4:wK c=0
 · rw [aE h4];exact (Cw (x:=σ a*c) F9).trans (by rw [cJ])
 rw [aD h4];refine (Cw (x:=σ a*c) ?_).trans (by rw [cJ]);show some (σ a*cst _)=_;rw [US h4]
theorem Nx (to c:Int):∀ (n:Nat) (a:Int) (σ:Int→Int),wD (Ju to c a (n+1)) σ=some (upd σ to (c ^ (n+1)*σ a))
 | 0,a,σ=>by
   show wD (Kk to a c++[]) σ=_;rw [bB,Wj,gU,lC,dW]
 | n+1,a,σ=>by
   refine uA (Wj to a c σ) ((Nx to c n to _).trans ?_);rw [Wf,uT,gU c (n+1),cO]
theorem UT {to tm b j:Int} {n:Nat} (σ:Int→Int) (h1:tm≠to) (h2:j≠to) (hn:1≤n) :
 ∃ σ',wD (GD to tm b j n) σ=some σ'∧σ' to=σ to+b ^ n*σ j∧∀ r,r≠to→r≠tm→σ' r=σ r:=by
 unfold GD;by_cases c1:b=1∨(b=-1∧n % 2=0)
 · rw [aE c1];refine ⟨_,Nv _ _ _ _,?_,fun r hr _=>uH _ _ hr⟩;rw [uT];have:b ^ n=1:=by
    rcases c1 with rfl | ⟨rfl,h⟩
    · exact Int.one_pow
    rw [Ew,aE h]
   rw [this,dW]
 rw [aD c1];by_cases c2:b=-1
 · rw [aE c2];refine ⟨_,Jp _ _ _ _,?_,fun r hr _=>uH _ _ hr⟩;rw [uT,c2,Ew,aD (fun h=>c1 (.inr ⟨c2,h⟩)),gR,dW];rfl
 rw [aD c2];obtain ⟨m,rfl⟩:∃ m,n=m+1:=⟨n - 1,by omega⟩
 refine ⟨_,uA (Nx tm b m j σ) (Nv _ _ _ _),?_,fun r hr h=>?_⟩
 · rw [uT,uT,uH _ _ (lT h1)]
 rw [uH _ _ hr,uH _ _ h]
theorem GF {z:List Int} {m:Nat} (h:m<z.length) (a b:Int):ev (z.drop m) a b=z[m]?.getD 0*b ^ (z.length - 1 - m)+a*ev (z.drop (m+1)) a b:=by
 rw [dQ h,aA h];show z[m]*b ^ (z.drop (m+1)).length+_=_;rw [gP,show z.length - (m+1)=z.length - 1 - m by omega];rfl
theorem GG {k:Nat} {to tm a b:Int} {z:List Int} (hz:z.length=k) (h1:tm≠to) (ht:(k:Int)≤to) (htm:(k:Int)≤tm):∀ (m:Nat) (fr:Int) (σ:Int→Int),m+1≤k→(m=0→fr=to)→
 (∀ j:Nat,j<k→σ j=z[j]?.getD 0)→σ fr=ev (z.drop m) a b→∃ σ',wD (KT k to tm a b fr m) σ=some σ'∧σ' to=ev z a b∧∀ r,r≠to→r≠tm→σ' r=σ r
 | 0,fr,σ,_,hf,_,hs=>⟨σ,F9,by rw [←hf rfl,hs];rfl,fun _ _ _=>rfl⟩
 | m+1,fr,σ,hm,_,hr,hs=>by
   obtain ⟨σ2,e1,e2,e3⟩:=UT (to:=to) (tm:=tm) (b:=b) (j:=(m:Int)) (n:=k - 1 - m) (upd σ to (a*σ fr)) h1 sW sW;rw [uT,uH _ _ sW,hr m sW] at e2;obtain ⟨σ3,f1,f2,f3⟩:=GG hz h1 ht htm m to σ2 sW (fun _=>rfl) (fun j hj=>by rw [e3 _ sW sW,uH _ _ sW];exact hr j hj) (by
    rw [e2,hs,GF (z:=z) (m:=m) sW a b,hz,cJ (b ^ (k - 1 - m)),sL])
   refine ⟨σ3,uA (Wj to fr a σ) (uA e1 f1),f2,fun r g1 g2=>?_⟩;rw [f3 r g1 g2,e3 r g1 g2,uH _ _ g1]
theorem AS (a:Int):∀ z:List Int,1≤z.length→ev z a 0=a ^ (z.length - 1)*z[z.length - 1]?.getD 0
 | [],h=>absurd h uE
 | [c],_=>by simp [ev]
 | c :: d :: f,_=>by
   have ih:=AS a (d :: f) uE;show c*0 ^ (d :: f).length+a*ev (d :: f) a 0=_;rw [ih];simp only [aY,jU];rw [sG sW,bR,lA,iT,gU a f.length,cJ (a ^ f.length) a,cO]
theorem GH (b:Int) {z:List Int} (h:1≤z.length):ev z 0 b=b ^ (z.length - 1)*z[0]?.getD 0:=by
 cases z with
 | nil=>simp at h
 | cons c f =>
   show c*b ^ f.length+0*_=_;rw [eV,fN,cJ];rfl
theorem PG {k n i:Nat} {q:R2} {z:List Int} (hz:z.length=k) (h1:1≤k) (hi:i<n) (σ:Int→Int) (hr:∀ j:Nat,j<k→σ j=z[j]?.getD 0) :
 ∃ σ',wD (Bt k n i q) σ=some σ'∧(k≠1→σ' ((k:Int)+i)=ev z q.a q.b)∧∀ r,r≠(k:Int)+i→r≠(k:Int)+n→σ' r=σ r:=by
 unfold Bt;by_cases hk:k=1
 · rw [aE hk];exact ⟨σ,F9,fun h=>absurd hk h,fun _ _ _=>rfl⟩
 rw [aD hk];by_cases c1:q.a=0∧q.b=0
 · rw [aE c1];refine ⟨_,Jp _ _ _ _,fun _=>?_,fun r hr _=>uH _ _ hr⟩;rw [uT,sH,c1.1,c1.2,GH 0 sW,sG sW,eV]
 rw [aD c1];obtain ⟨m,hm⟩:∃ m,k - 1=m+1:=⟨k - 2,by omega⟩
 by_cases c2:q.a=0
 · rw [aE c2,hm];refine ⟨_,Nx _ _ m _ σ,fun _=>?_,fun r hr _=>uH _ _ hr⟩;have:=hr 0 sW;rw [uT,c2,GH _ sW,hz,hm,←this];rfl
 rw [aD c2];by_cases c3:q.b=0
 · rw [aE c3,hm];refine ⟨_,Nx _ _ m _ σ,fun _=>?_,fun r hr _=>uH _ _ hr⟩;have:=hr (k - 1) sW;rw [show ((k - 1:Nat):Int)=(k:Int) - 1 by omega] at this;rw [uT,c3,AS _ _ sW,hz,this,hm]
 rw [aD c3];obtain ⟨σ',e1,e2,e3⟩:=GG (k:=k) (to:=(k:Int)+i) (tm:=(k:Int)+n) (a:=q.a) (b:=q.b) hz sW sW sW (k - 1) ((k:Int) - 1) σ sW (fun h=>by omega) hr (by
  have:=hr (k - 1) sW;rw [show ((k - 1:Nat):Int)=(k:Int) - 1 by omega] at this;rw [this,GF sW,fD sW,hz,iW,lC,gZ];show _=_+q.a*0;rw [bR,fN])
 exact ⟨σ',e1,fun _=>e2,e3⟩
theorem GI {k:Nat} (n:Nat) {z:List Int} (hz:z.length=k) (h1:1≤k):∀ (l:List R2) (i:Nat) (σ:Int→Int),i+l.length≤n→(∀ j:Nat,j<k→σ j=z[j]?.getD 0)→
 ∃ σ',wD (AQ k n i l) σ=some σ'∧(k≠1→∀ t:Nat,t<l.length→σ' ((k:Int)+((i+t:Nat):Int))=ev z (l[t]?.getD default).a (l[t]?.getD default).b)∧∀ r:Int,r<(k:Int)+i→σ' r=σ r
 | [],i,σ,_,_=>⟨σ,F9,fun _ t ht=>absurd ht uE,fun _ _=>rfl⟩
 | q :: l,i,σ,hi,hr=>by
   rw [aY] at hi;obtain ⟨σ1,e1,e2,e3⟩:=PG (q:=q) (n:=n) hz h1 (show i<n by omega) σ hr;obtain ⟨σ2,f1,f2,f3⟩:=GI n hz h1 l (i+1) σ1 sW (fun j hj=>by rw [e3 _ sW sW];exact hr j hj);refine ⟨σ2,uA e1 f1,fun hk t ht=>?_,fun r hr=>by rw [f3 r sW,e3 r sW sW]⟩;cases t with
   | zero =>
     rw [iH,f3 _ sW,e2 hk];rfl
   | succ t =>
     rw [aY] at ht;have:=f2 hk t sW;rw [show i+1+t=i+(t+1) by omega] at this;exact this
theorem UU {to a c R:Int} (h1:0≤to∧to<R) (h2:0≤a∧a<R) (hc:1≤c∧c≤64):tI ⟨7,to,a,0,c⟩ R=true:=by
 unfold tI;rw [aW,aW,aV,eN];refine ⟨⟨(show 1≤(7:Int)∧(7:Int)≤8∧0≤to∧to<R∧((7:Int)=3∨(7:Int)=4∨(0:Int)=0) by omega),?_⟩,fun r hr=>?_⟩
 · unfold tK;rw [aD (show ¬((7:Int)=5∨(7:Int)=6) by omega),aE (show ((7:Int)=7∨(7:Int)=8) by omega),aV];exact hc
 rw [aV];unfold tM at hr;rw [aD (show ¬((7:Int)=3∨(7:Int)=4) by omega),aE (show 1≤(7:Int)∧(7:Int)≤8 by omega)] at hr;rw [eM.1 hr];exact h2
theorem Ny {R:Int} {i:Sl.Instr} (h:tI i R=true) (hd:¬(i.op=6∨i.op=8)):Good R 1 0 [i]:=(pG h).mono (aI _) (nK (aD hd))
theorem AT {R to a c:Int} (h1:0≤to∧to<R) (h2:0≤a∧a<R) (hc:c≠0∧-512≤c∧c≤512):Good R 1 0 (Kk to a c):=by
 unfold Kk;split
 · split
   · exact (iJ R).mono sW (aI _)
   exact Ny (Fs (.inl F9) h1 h2) (by show ¬((1:Int)=6∨(1:Int)=8);decide)
 split
 · exact Ny (Fs (.inr F9) h1 h2) (by show ¬((2:Int)=6∨(2:Int)=8);decide)
 split
 · exact Ny (Ll (.inl F9) h1 h2 hc) (by show ¬((5:Int)=6∨(5:Int)=8);decide)
 rename_i hp;refine Ny (UU h1 h2 ?_) (by show ¬((7:Int)=6∨(7:Int)=8);decide);rcases Cp hp with rfl | rfl | rfl | rfl | rfl | rfl | rfl | rfl | rfl <;> decide
theorem Jv {R to c:Int} (h1:0≤to∧to<R) (hc:c≠0∧-512≤c∧c≤512):∀ (n:Nat) (a:Int),0≤a∧a<R→Good R n 0 (Ju to c a n)
 | 0,_,_=>iJ R
 | n+1,a,h2=>((AT h1 h2 hc).append (Jv h1 hc n to h1)).mono sW (aI _)
theorem PI {R to tm b j:Int} {n:Nat} (h1:0≤to∧to<R) (h2:0≤tm∧tm<R) (h3:0≤j∧j<R) (hb:b≠0∧-512≤b∧b≤512):Good R (n+1) 0 (GD to tm b j n):=by
 unfold GD;split
 · exact (Jr h1 h1 h3).mono sW (aI _)
 split
 · exact (Ex h1 h1 h3).mono sW (aI _)
 exact (Jv h2 hb n j h3).append (Jr h1 h1 h2)
theorem AU {k:Nat} {R to tm a b:Int} (h1:0≤to∧to<R) (h2:0≤tm∧tm<R) (hk:(k:Int)≤R) (ha:a≠0∧-512≤a∧a≤512) (hb:b≠0∧-512≤b∧b≤512) :
 ∀ (m:Nat) (fr:Int),m+1≤k→0≤fr∧fr<R→Good R (m*(k+1)) 0 (KT k to tm a b fr m)
 | 0,_,_,_=>(iJ R).mono (aN _) (aI _)
 | m+1,fr,hm,h3=>((AT h1 h3 ha).append ((PI (n:=k - 1 - m) h1 h2 sW hb).append (AU h1 h2 hk ha hb m to sW h1))).mono (by rw [sC];omega) (aI _)
theorem JS {k n i:Nat} {q:R2} (h1:1≤k) (h8:k≤8) (hi:i<n) (hq:near q.a q.b):Good ((k:Int)+n+1) 63 0 (Bt k n i q):=by
 have hq':-16≤q.a∧q.a≤16∧-16≤q.b∧q.b≤16:=by unfold near at hq;omega
 unfold Bt;by_cases hk:k=1
 · rw [aE hk];exact (iJ _).mono (aN _) (aI _)
 rw [aD hk];by_cases c1:q.a=0∧q.b=0
 · rw [aE c1];exact (Ex sW sW sW).mono sW (aI _)
 rw [aD c1];by_cases c2:q.a=0
 · rw [aE c2];exact (Jv sW sW _ _ sW).mono sW (aI _)
 rw [aD c2];by_cases c3:q.b=0
 · rw [aE c3];exact (Jv sW sW _ _ sW).mono sW (aI _)
 rw [aD c3];exact (AU sW sW sW sW sW _ _ sW sW).mono (bO (gV (show k - 1≤7 by omega) (show k+1≤9 by omega)) (aI _)) (aI _)
theorem Qk {k n:Nat} (h1:1≤k) (h8:k≤8):∀ (l:List R2) (i:Nat),i+l.length≤n→(∀ q∈l,near q.a q.b)→Good ((k:Int)+n+1) (63*l.length) 0 (AQ k n i l)
 | [],_,_,_=>iJ _
 | q :: l,i,hi,hq=>by
   rw [aY] at hi;exact ((JS h1 h8 (show i<n by omega) (hq q bF)).append (Qk h1 h8 l (i+1) sW fun p hp=>hq p (bA _ hp))).mono Mg (aI _)
def Lp (k:Nat) (l:List R2):Prop:=1≤k∧k≤8∧1≤l.length∧l.length≤15∧Es l
theorem Uc {l:List R2} (h:Es l):∀ q∈l,near q.a q.b:=fun q hq=>by
 obtain ⟨i,hi,rfl⟩:=gF.1 hq;have:=h i hi;rw [aA hi] at this;exact this
theorem Ft {k:Nat} {l:List R2} (h:Lp k l):Good ((k:Int)+l.length+1) (63*l.length) 0 (AQ k l.length 0 l):=Qk h.1 h.2.1 l 0 sW (Uc h.2.2.2.2)
theorem Ql {k:Nat} {l:List R2} (h:Lp k l):sY (evP k l)=true:=by
 have hg:=Ft h;obtain ⟨h1,h2,h3,h4,h5⟩:=h;have hgl:=hg.len;have hol:(evP k l).outs.length=l.length:=by show ((List.range l.length).map _).length=_;rw [aP,cB]
 refine Lk ⟨by show (1:Int)≤k;omega,by show (k:Int)≤(k:Int)+l.length+1;omega,by show (k:Int)+l.length+1≤128;omega,bO hgl sW,by omega,by omega⟩ (fun r hr=>?_) hg.fit;obtain ⟨i,hi,rfl⟩:=dY.1 (show r∈(List.range l.length).map (JR k) from hr);have:=iO.1 hi;show 0≤JR k i∧JR k i<(k:Int)+l.length+1;unfold JR;split <;> omega
theorem UW {l:List Sl.Instr} (h:We l≤0):∀ i∈l,¬(i.op=6∨i.op=8):=fun i hi hd=>by
 unfold We at h;have:(l.filter fun i=>AD i)=[]:=List.length_eq_zero_iff.1 (rE.1 h);rw [List.filter_eq_nil_iff] at this;exact this i hi (bT hd)
theorem PJ {k:Nat} {l:List R2} (h:Lp k l) {z:List Int} (hz:z.length=k):Du (evP k l) z=some (l.map fun q=>ev z q.a q.b):=by
 have hg:=Ft h;obtain ⟨h1,h2,h3,h4,h5⟩:=h;generalize hrs:wC (evP k l) z=rs;have hrl:(rs.length:Int)=(k:Int)+l.length+1:=by
  rw [←hrs];unfold wC;rw [aB,aJ,hz];show ((k+(((k:Int)+l.length+1).toNat - k):Nat):Int)=_;omega
 have hr0:∀ i,i<k→rs[i]?.getD 0=z[i]?.getD 0:=fun i hi=>by
  rw [←hrs];unfold wC;rw [bJ sW]
 obtain ⟨σ',e1,e2,e3⟩:=GI l.length hz h1 l 0 (fun r=>rs[r.toNat]?.getD 0) sW (fun j hj=>by rw [aF];exact hr0 j hj);obtain ⟨rs',c1,c2,c3⟩:=Qj (AQ k l.length 0 l) (fun r=>rs[r.toNat]?.getD 0) σ' rs hg.fit hrl (fun r _ _=>rfl) e1;unfold Du;rw [Do _ _ _ (aI _),bD,hrs];show (CB (AQ k l.length 0 l) rs).map (yW (evP k l))=_;rw [c1];show some (yW (evP k l) rs')=_;congr 1;unfold yW evP;simp only;apply gD
 · rw [aP,aP,cB,aP]
 intro j g1 g2;rw [aP] at g2;rw [gB,gB,kY,gB];unfold JR;by_cases hk:k=1
 · rw [aE hk];have:=c3 0 sW sW;show rs'[(0:Int).toNat]?.getD 0=_;rw [←this,e3 0 sW];show rs[(0:Int).toNat]?.getD 0=_;rw [show (0:Int).toNat=0 from rfl,hr0 0 sW];cases z with
   | nil=>simp at hz;omega
   | cons c f =>
     cases f with
     | nil=>simp [ev]
     | cons d f=>simp at hz;omega
 rw [aD hk,←c3 _ sW sW];have:=e2 hk j g2;rw [cS] at this;rw [this,aA g2];rfl
theorem Fu {k:Nat} {l:List R2} (h:Lp k l):vK (evP k l) k l:=by
 have hol:(evP k l).outs.length=l.length:=by show ((List.range l.length).map _).length=_;rw [aP,cB]
 refine ⟨F9,hol,UW (Ft h).dv,?_⟩;rw [aF];refine Fb (N:=k) (Ql h) (by rw [yF];rfl) (fun r hr=>?_) (by rw [aP,hol]) (fun r hr=>?_) fun j hj=>?_
 · unfold vV at hr;obtain ⟨i,hi,rfl⟩:=dY.1 hr;exact Au k i
 · obtain ⟨q,hq,rfl⟩:=dY.1 hr;exact Jh _ _ _
 have e1:Cm j (vV k)=uU k j:=by
  refine hS fun i=>?_;rcases aK i k with hi | hi
  · have hl1:i<(Cm j (vV k)).length:=by rw [yZ,yF];exact hi
    have hl2:i<(uU k j).length:=by rw [Au];exact hi
    have h1:(Cm j (vV k))[i]?.getD 0=(uU k j)[i]?.getD 0:=by
     rw [Fa,IW hi];unfold uU;rw [cI,cI,fW,fW,aJ];by_cases hij:i=j
     · subst hij;rw [aE rfl,aE hj]
     rw [aD hij,aD (lT hij),aE hi,aE hj]
    rw [aA hl1,aA hl2] at h1 ⊢;exact congrArg some h1
  rw [cA (by rw [yZ,yF];exact hi),cA (by rw [Au];exact hi)]
 rw [e1,PJ h (Au k j)];congr 1;unfold Cm;rw [qN];apply jL;intro q hq;show ev (uU k j) q.a q.b=(yE q.a q.b k)[j]?.getD 0;rw [AP hj];unfold yE;rw [bK,fB hj];rfl
def Xs (to a c:Int):Sl.Instr:=if c=1 then ⟨1,to,a,0,0⟩ else if c=-1 then ⟨2,to,a,0,0⟩ else if wK c=0 then ⟨5,to,a,0,c⟩ else ⟨7,to,a,0,wK c⟩
def UX (i:Sl.Instr):List Sl.Instr:=if i.op≠1∨i.to≠i.a then [i] else []
theorem YO (to a c:Int):UX (Xs to a c)=Kk to a c:=by
 unfold UX Xs Kk;by_cases h1:c=1
 · simp only [aE h1];by_cases h2:to=a
   · rw [aE h2,aD];rintro (h | h)
     · exact h F9
     exact h h2
   rw [aD h2,aE (.inr h2)]
 simp only [aD h1];by_cases h2:c=-1
 · simp only [aE h2];exact aE (.inl (show ¬((2:Int)=1) by decide))
 simp only [aD h2];by_cases h3:wK c=0
 · simp only [aE h3];exact aE (.inl (show ¬((5:Int)=1) by decide))
 simp only [aD h3];exact aE (.inl (show ¬((7:Int)=1) by decide))
theorem c90 (G:A3) (hT:TabOk G) (to a c:Int) (hc:c≠0∧-512≤c∧c≤512):Does Tryz.prog 90 [.int .i64 to,.int .i64 a,.int .i64 c] G [] (fun v G' Ho=>v=.agg #[.int .i64 (Xs to a c).op,.int .i64 (Xs to a c).to,.int .i64 (Xs to a c).a,.int .i64 (Xs to a c).b,.int .i64 (Xs to a c).c]∧G'=G∧Ho=[]):=by
 refine D0 Tryz.func90 Tryz.ntmps90 fun w=>?_;refine aH 2 [] ?_;refine aM 0 F9 T.zero91 fun b1=>?_;refine aZ 11 [] ?_;refine dB (fun hc1=>?_) fun hc1=>?_;refine aH 4 [] ?_;refine aQ (bP (cs:=[_,_,_,_,_]) T.st91 F9 F9 F9) ?_;refine aS 6 [0] ?_;refine cK (.inr F9) (Ho:=Hp.only _ []) F9 (.agg 0 F9 F9 T.agg91) (aU _ _) ?_;rotate_left;refine bL 7 [] ?_;refine dB (fun hc2=>?_) fun hc2=>?_;refine aH 4 [] ?_;refine aQ (bP (cs:=[_,_,_,_,_]) T.st91 F9 F9 F9) ?_;refine aS 6 [0] ?_;refine cK (.inr F9) (Ho:=Hp.only _ []) F9 (.agg 0 F9 F9 T.agg91) (aU _ _) ?_;rotate_left;refine aH 5 [] ?_;apply bW 6 22 28 F9;intro hg1;refine aC 7 [] ?_;refine aQ (lS F9 F9) ?_;refine aC 3 [] ?_;exact dI 6 0;intro hg1;refine aC 6 [] ?_;exact dI 6 0;refine aZ 3 [] ?_;refine dB (fun hc3=>?_) fun hc3=>?_;refine aH 5 [] ?_;refine aQ (dM F9 T.u199 F9 sW) ?_;rotate_left;refine aH 8 [] ?_;refine aQ (bP (cs:=[_,_,_,_,_]) T.st91 F9 F9 F9) ?_;refine aS 4 [0] ?_;refine cK (.inr F9) (Ho:=Hp.only _ []) F9 (.agg 0 F9 F9 T.agg91) (aU _ _) ?_;rotate_left
 · have e:Xs to a c=⟨1,to,a,0,0⟩:=aE hc1;rw [e];exact ⟨F9,F9,F9⟩
 · have e:Xs to a c=⟨2,to,a,0,0⟩:=(aD hc1).trans (aE hc2);rw [e];exact ⟨F9,F9,F9⟩
 · have hp:wK c≠0:=(Fm ⟨by omega,hc.2.2⟩).1 hc3.2;refine cF F9 (ZZ _ hT _ hp) ?_;refine aQ (bP (cs:=[_,_,_,_,_]) T.st91 F9 F9 F9) ?_;refine aS 6 [0] ?_;refine cK (.inr F9) (Ho:=Hp.only _ []) F9 (.agg 0 F9 F9 T.agg91) (aU _ _) ?_;have e:Xs to a c=⟨7,to,a,0,wK c⟩:=(aD hc1).trans ((aD hc2).trans (aD hp));rw [e];exact ⟨F9,F9,F9⟩
 have hp:wK c=0:=by
  rcases qO c 2 with h2 | h2
  · exact Kx h2
  exact eE fun hn=>hc3 ⟨by omega,(Fm ⟨h2,hc.2.2⟩).2 hn⟩
 have e:Xs to a c=⟨5,to,a,0,c⟩:=(aD hc1).trans ((aD hc2).trans (aE hp));rw [e];exact ⟨F9,F9,F9⟩
abbrev Sh (b:Nat) (ins regs:Int) (ac:Option Addr) (cc:Nat) (code:List Sl.Instr) (j:List Value) (oa:Option Addr) (on oc:Nat):Hp:=[(0,some b,.cells #[.int .i64 ins,.int .i64 regs,.slice ac code.length cc,.slice oa on oc] 26),(1,ac.map (·.block),Row 91 code j)]
theorem c88 (G:A3) (b:Nat) (ins regs:Int) (ac:Option Addr) (cc:Nat) (code:List Sl.Instr) (j:List Value) (oa:Option Addr) (on oc:Nat) (op to x y c:Int) (ho:A4 ac cc code j) (hl:code.length≤1048576) :
 Does Tryz.prog 88 [.agg #[.int .i64 op,.int .i64 to,.int .i64 x,.int .i64 y,.int .i64 c],.pointer (some ⟨b,0,none⟩)] G (Sh b ins regs ac cc code j oa on oc)
  (fun v G' Ho=>v=.tuple #[]∧G'=G∧∃ (a':Option Addr) (c':Nat) (j':List Value),A4 a' c' (code++UX ⟨op,to,x,y,c⟩) j'∧Ho=Sh b ins regs a' c' (code++UX ⟨op,to,x,y,c⟩) j' oa on oc):=by
 unfold Sh;refine D0 Tryz.func88 Tryz.ntmps88 fun w=>?_;refine aH 2 [] ?_;refine eC 2 fun b1=>?_;refine aL 8 [2] ?_;apply dZ 6 6 12 F9;intro hg1;refine aC 11 [2,2] ?_;exact dI 6 0;intro hg1;refine aC 6 [] ?_;exact dI 6 0;refine aZ 2 [] ?_;refine dB (fun hc1=>?_) fun hc1=>?_;refine aH 4 [0,2] ?_;refine cC (α:=Sl.Instr) 3 [⟨op,to,x,y,c⟩] F9 T.sl23 T.el91 F9 F9 F9 F9 F9 fun b2=>?_;refine kM (α:=Sl.Instr) 1 T.sl23 T.el91 (cQ 3 F9) fun a1 c1 junk1 ho1=>?_;refine aS 3 [0] ?_;rotate_left;refine kN ?_;rotate_left
 · have e:UX ⟨op,to,x,y,c⟩=[⟨op,to,x,y,c⟩]:=aE hc1;rw [e];refine kH zS (Ho:=[(0,some b,.cells #[.int .i64 ins,.int .i64 regs,.slice a1 (code++[(⟨op,to,x,y,c⟩:Sl.Instr)]).length c1,.slice oa on oc] 26),(1,a1.map (·.block),Row 91 (code++[⟨op,to,x,y,c⟩]) junk1)]) F9 ⟨F9,F9,H2⟩ ?_;exact ⟨F9,F9,a1,c1,junk1,ho1,F9⟩
 have e:UX ⟨op,to,x,y,c⟩=[]:=aD hc1;rw [e,bB];refine kH zS (Ho:=[(0,some b,.cells #[.int .i64 ins,.int .i64 regs,.slice ac code.length cc,.slice oa on oc] 26),(1,ac.map (·.block),Row 91 code j)]) F9 ⟨F9,F9,H2⟩ ?_;exact ⟨F9,F9,ac,cc,j,ho,F9⟩
theorem cz (G:A3) (b:Nat) (ins regs:Int) (ac:Option Addr) (cc:Nat) (code:List Sl.Instr) (j:List Value) (oa:Option Addr) (on oc:Nat) (to a c:Int) (ho:A4 ac cc code j) (hl:code.length≤1048576) :
 Does Tryz.prog 88 [.agg #[.int .i64 (Xs to a c).op,.int .i64 (Xs to a c).to,.int .i64 (Xs to a c).a,.int .i64 (Xs to a c).b,.int .i64 (Xs to a c).c],.pointer (some ⟨b,0,none⟩)] G (Sh b ins regs ac cc code j oa on oc)
  (fun v G' Ho=>v=.tuple #[]∧G'=G∧∃ (a':Option Addr) (c':Nat) (j':List Value),A4 a' c' (code++Kk to a c) j'∧Ho=Sh b ins regs a' c' (code++Kk to a c) j' oa on oc):=by
 rw [←YO to a c];exact c88 G b ins regs ac cc code j oa on oc _ _ _ _ _ ho hl
theorem UY (G:A3) (b:Nat) (ins regs:Int) (ac:Option Addr) (cc:Nat) (code:List Sl.Instr) (j:List Value) (oa:Option Addr) (on oc:Nat) (op to x y c:Int) (hop:op≠1) (ho:A4 ac cc code j) (hl:code.length≤1048576) :
 Does Tryz.prog 88 [.agg #[.int .i64 op,.int .i64 to,.int .i64 x,.int .i64 y,.int .i64 c],.pointer (some ⟨b,0,none⟩)] G (Sh b ins regs ac cc code j oa on oc)
  (fun v G' Ho=>v=.tuple #[]∧G'=G∧∃ (a':Option Addr) (c':Nat) (j':List Value),A4 a' c' (code++[⟨op,to,x,y,c⟩]) j'∧Ho=Sh b ins regs a' c' (code++[⟨op,to,x,y,c⟩]) j' oa on oc):=by
 rw [show ([⟨op,to,x,y,c⟩]:List Sl.Instr)=UX ⟨op,to,x,y,c⟩ from (aE (.inl hop)).symm];exact c88 G b ins regs ac cc code j oa on oc _ _ _ _ _ ho hl
theorem Wk (to a c:Int):(Kk to a c).length≤1:=by
 unfold Kk
 repeat' split
 all_goals simp
theorem GJ (to c:Int):∀ (n:Nat) (a:Int),(Ju to c a n).length≤n
 | 0,_=>aI _
 | n+1,a=>by
   show (Kk to a c++Ju to c to n).length≤n+1;rw [aB];have h1:=GJ to c n to;have h2:=Wk to a c;omega
theorem PK (to c a:Int):Ju to c a 0=[]:=rfl
theorem PL (to c a:Int) (n:Nat):Ju to c a (n+1)=Kk to a c++Ju to c to n:=rfl
section
attribute [local irreducible] Ju Kk Xs UX
theorem ki (G:A3) (hT:TabOk G) (b b7:Nat) (ins regs:Int) (ac:Option Addr) (cc:Nat) (code:List Sl.Instr) (j:List Value) (oa:Option Addr) (on oc:Nat) (to a c:Int) (n:Nat) (hc:c≠0∧-512≤c∧c≤512)
 (hb7:G b7=some (.cells #[.func (.func 88) #[] #[.pointer (some ⟨b,0,none⟩)]] 150 (0,0))) (ho:A4 ac cc code j) (hl:code.length+n≤1048576) :
 Does Tryz.prog 89 [.int .i64 to,.int .i64 a,.int .i64 c,.int .i64 (n:Int),.pointer (some ⟨b7,0,none⟩)] G (Sh b ins regs ac cc code j oa on oc)
  (fun v G' Ho=>v=.tuple #[]∧G'=G∧∃ (a':Option Addr) (c':Nat) (j':List Value),A4 a' c' (code++Ju to c a n) j'∧Ho=Sh b ins regs a' c' (code++Ju to c a n) j' oa on oc):=by
 unfold Sh;refine D0 Tryz.func89 Tryz.ntmps89 fun w=>?_;refine bL 7 [] ?_;refine fX (ι:=Nat×Int×List Sl.Instr×(Option Addr×Nat×List Value)) (fun (i,x,cd,(o,d,jj))=>([(10,.int .i64 (i:Int)),(1,.int .i64 x),(9,.int .i64 (n:Int)),(0,.int .i64 to),(2,.int .i64 c),(4,.pointer (some ⟨b7,0,none⟩))],[(0,some b,.cells #[.int .i64 ins,.int .i64 regs,.slice o cd.length d,.slice oa on oc] 26),(1,o.map (·.block),Row 91 cd jj)])) (fun (i,x,cd,(o,d,jj))=>i≤n∧cd++Ju to c x (n - i)=code++Ju to c a n∧A4 o d cd jj∧cd.length≤code.length+i) (fun (i,x,cd,(o,d,jj))=>n - i) ((0,a,code,(ac,cc,j))) (⟨aN _,F9,ho,aI _⟩) ⟨F9,F9,F9,F9,F9,F9,H2⟩ ⟨F9,F9,H2⟩ fun ⟨i,x,cd,(o,d,jj)⟩=>fun hk=>?_;obtain ⟨hi,hcd,hown,hlen⟩:=hk;rcases aK i n with hin | hin
 · obtain ⟨m,hm⟩:∃ m,n - i=m+1:=⟨n - i - 1,by omega⟩
   rw [hm,PL] at hcd;refine bL 12 [1] ?_;refine fL [] [] T.mixed F9 ?_;refine eD 0 [] F9 (bV T.one150 F9 (wH hb7 F9)) ?_;refine dP [[1],[2],[3]] ?_;refine bE 4 ?_;refine cF F9 (c90 _ hT to x c hc) ?_;refine cX 5 ?_;refine fA (fst:=[]) (cap:=[.pointer (some ⟨b,0,none⟩)]) 0 F9 T.fn88 F9 F9 (cz G b ins regs o d cd jj oa on oc to x c hown sW) (tC ⟨F9,F9,H2⟩) fun v9 G9 Ho9 hle9 hp=>?_;obtain ⟨rfl,rfl,o9,d9,j9,how9,rfl⟩:=hp;refine fJ ?_;refine dO 11 [] ?_;have hl1:=Wk to x c;refine cM ((i+1,to,cd++Kk to x c,(o9,d9,j9))) ?_ ?_
   · refine ⟨by omega,?_,how9,by rw [aB];omega⟩;rw [aR,show n - (i+1)=m by omega];exact hcd
   show n - (i+1)<n - i;omega
 have hz:n - i=0:=sW;rw [hz,PK,bB] at hcd;subst hcd;refine bG 11 [0] ?_;refine kH zS (Ho:=[(0,some b,.cells #[.int .i64 ins,.int .i64 regs,.slice o (code++Ju to c a n).length d,.slice oa on oc] 26),(1,o.map (·.block),Row 91 (code++Ju to c a n) jj)]) F9 ⟨F9,F9,H2⟩ ?_;exact ⟨F9,F9,o,d,jj,hown,F9⟩
end
theorem Cd {k:Nat} {l:List R2} (hR:uG l) (hk:1≤k∧k≤8):Lp k l:=⟨hk.1,hk.2,hR.1,hR.2.1,fun i hi=>(hR.2.2.1 i hi).1⟩
theorem Lq {l:List R2} (hR:uG l) {i:Nat} (hi:i<l.length):near (l[i]?.getD default).a (l[i]?.getD default).b∧¬((l[i]?.getD default).a=0∧(l[i]?.getD default).b=0):=hR.2.2.1 i hi
theorem UZ {k:Nat} (h:k=1) (i:Nat):JR k i=0:=aE h
theorem Wm {k:Nat} (h:¬k=1) (i:Nat):JR k i=(k:Int)+i:=aD h
theorem PM {k n i:Nat} {q:R2} (h:k=1):Bt k n i q=[]:=aE h
theorem JT {k n i:Nat} {q:R2} (h:¬k=1) (h0:¬(q.a=0∧q.b=0)) (ha:q.a=0):Bt k n i q=Ju ((k:Int)+i) q.b 0 (k - 1):=by unfold Bt;rw [aD h,aD h0,aE ha]
theorem DU {k n i:Nat} {q:R2} (h:¬k=1) (ha:¬q.a=0) (hb:q.b=0):Bt k n i q=Ju ((k:Int)+i) q.a ((k:Int) - 1) (k - 1):=by unfold Bt;rw [aD h,aD (fun h=>ha h.1),aD ha,aE hb]
theorem JU {k n i:Nat} {q:R2} (h:¬k=1) (ha:¬q.a=0) (hb:¬q.b=0):Bt k n i q=KT k ((k:Int)+i) ((k:Int)+n) q.a q.b ((k:Int) - 1) (k - 1):=by unfold Bt;rw [aD h,aD (fun h=>ha h.1),aD ha,aD hb]
theorem PN (k:Nat) (to tm a b fr:Int):KT k to tm a b fr 0=[]:=rfl
theorem PO (k:Nat) (to tm a b fr:Int) (m:Nat):KT k to tm a b fr (m+1)=Kk to fr a++(GD to tm b m (k - 1 - m)++KT k to tm a b to m):=rfl
theorem GK {to tm b j:Int} {n:Nat} (h:b=1∨(b=-1∧n % 2=0)):GD to tm b j n=[⟨3,to,to,j,0⟩]:=aE h
theorem VA {to tm b j:Int} {n:Nat} (h:¬(b=1∨(b=-1∧n % 2=0))) (h1:b=-1):GD to tm b j n=[⟨4,to,to,j,0⟩]:=(aD h).trans (aE h1)
theorem VB {to tm b j:Int} {n:Nat} (h:¬(b=1∨(b=-1∧n % 2=0))) (h1:¬b=-1):GD to tm b j n=Ju tm b j n++[⟨3,to,to,tm,0⟩]:=(aD h).trans (aD h1)
theorem VC (k n i:Nat):AQ k n i []=[]:=rfl
section
attribute [local irreducible] Ju Kk Xs UX uG KT GD Bt AQ JR
theorem fg (G:A3) (hT:TabOk G) (k:Nat) (a:Option Addr) (c:Nat) (l:List R2) (ha:Arr G a l) (hl:l.length≤1048576) (hR:uG l) (hk1:1≤k) (hk8:k≤8) :
 Does Tryz.prog 43 [.int .i64 (k:Int),.slice a l.length c] G [] (fun v G' Ho=>∃ ca oa cc oc,v=.tuple #[.agg #[.int .i64 (evP k l).ins,.int .i64 (evP k l).regs,.slice ca (evP k l).code.length cc,.slice oa (evP k l).outs.length oc],.int .i64 0]∧Arr G' ca (evP k l).code∧Arr G' oa (evP k l).outs∧Ho=[]):=by
 have hE:=Cd hR ⟨hk1,hk8⟩;have hl15:=hE.2.2.2.1;have hln:=hE.2.2.1;refine D0 Tryz.func43 Tryz.ntmps43 fun w=>?_;refine aH 2 [] ?_;refine aM 0 F9 T.zero26 fun b1=>?_;refine aZ 3 [] ?_;refine lX ?_;refine aH 6 [] ?_;refine nF 18 ?_;refine aC 6 [] ?_;refine nF 22 ?_;refine aC 3 [] ?_;refine cF F9 (c87 _ _ _ _ sX sW hR) ?_;refine aC 1 [] ?_;refine aQ (fS F9) ?_;refine aL 14 [0] ?_;refine aQ (bP (cs:=[_,_,_,_]) T.st26 F9 F9 F9) ?_;refine aM 1 F9 T.zero26 fun b2=>?_;refine aL 5 [1] ?_;refine aQ (gY F9 F9) ?_;refine aM 2 F9 T.zero150 fun b3=>?_;refine aL 14 [2] ?_;refine aQ (gY F9 F9) ?_;refine aZ 7 [] ?_;refine Wc.freeze 2 F9 fun G1 hle1 hb3=>?_;refine eF 2 (Row 91 ([]:List Sl.Instr) []) (eF 3 (Row 3 ([]:List Int) []) ?_);replace ha:=ha.up hle1;have hT1:=hT.up hle1;replace hb3:G1 b3=some (.cells #[.func (.func 88) #[] #[.pointer (some ⟨b2,0,none⟩)]] 150 (0,0)):=hb3;have hcell:G1.cell b3 0=some (.func (.func 88) #[] #[.pointer (some ⟨b2,0,none⟩)]):=wH hb3 F9;refine bL 8 [] ?_;refine fX (ι:=Nat×(List Sl.Instr×Option Addr×Nat×List Value)×(List Int×Option Addr×Nat×List Value)) (fun (i,(cd,o,d,jj),(os,oo,od,kk))=>([(43,.int .i64 (i:Int)),(6,.pointer (some ⟨b2,0,none⟩)),(4,.pointer (some ⟨b1,0,none⟩)),(42,.int .i64 (l.length:Int)),(41,.slice a (List.length l) c),(9,.func (Go.Fn.func 89) #[] #[.pointer (some (Addr.mk b3 0 none))]),(8,.int .i64 ((↑k:Int)+(l.length:Int))),(7,.pointer (some (Addr.mk b3 0 none))),(5,.int .i64 0),(0,.int .i64 (↑k:Int))],[(0,some b1,.cells #[.int .i64 0,.int .i64 0,.slice none 0 0,.slice none 0 0] 26),(1,some b2,.cells #[.int .i64 (k:Int),.int .i64 ((k:Int)+l.length+1),.slice o cd.length d,.slice oo os.length od] 26),(2,o.map (·.block),Row 91 cd jj),(3,oo.map (·.block),Row 3 os kk)])) (fun (i,(cd,o,d,jj),(os,oo,od,kk))=>i≤l.length∧cd=AQ k l.length 0 (l.take i)∧os=(List.range i).map (JR k)∧A4 o d cd jj∧A4 oo od os kk∧cd.length≤63*i∧os.length=i) (fun (i,(cd,o,d,jj),(os,oo,od,kk))=>l.length - i) ((0,([],none,0,[]),([],none,0,[]))) (⟨aN _,(VC _ _ _).symm,F9,eG,eG,aN _,F9⟩) ⟨F9,F9,F9,F9,F9,F9,F9,F9,F9,F9,H2⟩ ⟨F9,F9,F9,F9,H2⟩ fun ⟨i,(cd,o,d,jj),(os,oo,od,kk)⟩=>fun hk=>?_;obtain ⟨hi,hcd,hos,hown,hoo,hcl,hol⟩:=hk;rcases aK i l.length with hil | hil
 · have hT2:AQ k l.length 0 (l.take (i+1))=cd++Bt k l.length i (l[(i:Int).toNat]?.getD default):=by
    rw [hcd,aF,cG,aA hil,eH];show AQ k l.length 0 (l.take i++[l[i]])=_;rw [AR,cS,bH,cY sW]
   have hO2:(List.range (i+1)).map (JR k)=os++[JR k i]:=by
    rw [hos,oM,iG];rfl
   have hq:near (l[(i:Int).toNat]?.getD default).a (l[(i:Int).toNat]?.getD default).b∧¬((l[(i:Int).toNat]?.getD default).a=0∧(l[(i:Int).toNat]?.getD default).b=0):=by rw [aF];exact Lq hR hil
   have hq':-16≤(l[(i:Int).toNat]?.getD default).a∧(l[(i:Int).toNat]?.getD default).a≤16∧-16≤(l[(i:Int).toNat]?.getD default).b∧(l[(i:Int).toNat]?.getD default).b≤16:=by have:=hq.1;unfold near at this;omega
   have hlen2:∀ x:Int,(os++[x]).length=i+1:=fun x=>by rw [aB,hol];rfl
   have hcl2:(AQ k l.length 0 (l.take (i+1))).length≤63*(i+1):=by
    have h9:=(Qk (n:=l.length) hk1 hk8 (l.take (i+1)) 0 (by rw [bH];omega) (fun q hq=>Uc hE.2.2.2.2 q (rG hq))).len;rw [bH,cY sW] at h9;exact h9
   have hn1:((k - 1:Nat):Int)=(k:Int) - 1:=sW;refine aH 14 [1] ?_;refine fV (α:=R2) T.sl22 ?_;refine lP T.agg52 ?_;refine aM 4 F9 T.zero52 fun b4=>?_;refine aL 17 [4,1] ?_;refine cC (α:=Int) 5 [((↑k:Int)+(↑i:Int))] F9 T.sl24 T.el3 F9 F9 F9 F9 F9 fun b5=>?_;refine kM (α:=Int) 3 T.sl24 T.el3 (cQ 5 F9) fun a1 c1 junk1 ho1=>?_;refine aZ 13 [1] ?_;refine dB (fun hc1=>?_) fun hc1=>?_;refine aH 5 [1] ?_;rotate_left;refine aH 6 [4] ?_;apply bW 4 68 72 F9;intro hg1;refine aC 7 [4] ?_;exact dI 4 0;intro hg1;refine aC 4 [] ?_;exact dI 4 0;refine aZ 12 [0,4] ?_;refine dB (fun hc2=>?_) fun hc2=>?_;refine aH 8 [4] ?_;rotate_left;refine bL 8 [4] ?_;refine dB (fun hc3=>?_) fun hc3=>?_;refine aH 10 [4] ?_;rotate_left;refine bL 18 [] ?_;rotate_left
   · refine aQ (dS (α:=Int) T.sl24 F9 F9 ho1 (show 0≤(i:Int)∧(i:Int)<(((os++[((k:Int)+i)]).length:Nat):Int) by rw [hlen2];omega)) ?_;refine dJ (α:=Int) (m:=(i:Int)) (z:=(0:Int)) 3 T.size3 F9 F9 F9 ho1 (by rw [hlen2];omega) F9 fun ho2=>?_;have hset:(os++[((k:Int)+i)]).set (i:Int).toNat 0=os++[(0:Int)]:=by
      rw [aF,←hol,qW _ _ (aI _),iW];rfl
     rw [hset] at ho2;refine aS 11 [] ?_;have hk:k=1:=sW;have e8:JR k i=0:=UZ hk i;have e9:Bt k l.length i (l[(i:Int).toNat]?.getD default)=[]:=PM hk;rw [e9,bB] at hT2;rw [e8] at hO2;refine gJ 3 (Row 3 (os++[(0:Int)]) junk1) F9 (by rw [hset]) (gJ 1 (.cells #[.int .i64 (k:Int),.int .i64 ((k:Int)+l.length+1),.slice o cd.length d,.slice a1 (os++[(0:Int)]).length c1] 26) F9 (congrArg (fun n:Nat=>Obj.cells #[.int .i64 (k:Int),.int .i64 ((k:Int)+l.length+1),.slice o cd.length d,.slice a1 n c1] 26 (0,0)) (show (os++[((k:Int)+i)]).length=(os++[(0:Int)]).length by rw [hlen2,hlen2])) ?_);refine cM ((i+1,(cd,o,d,jj),(os++[0],a1,c1,junk1))) ?_ ?_
     · exact ⟨by omega,hT2.symm,hO2.symm,hown,ho2,by rw [←hT2];exact hcl2,hlen2 _⟩
     show l.length - (i+1)<l.length - i;omega
   · have hk:¬k=1:=sW;rw [Wm hk i] at hO2;have hb0:(l[(i:Int).toNat]?.getD default).b≠0:=fun h=>hq.2 ⟨by assumption,h⟩;refine fR 86 F9 (show _=Value.int .i64 ((k - 1:Nat):Int) by rw [hn1]) ?_;refine fA (fst:=[]) (cap:=[.pointer (some ⟨b3,0,none⟩)]) 1 F9 T.fn89 F9 F9 (ki G1 hT1 b2 b3 _ _ o d cd jj a1 (os++[((k:Int)+i)]).length c1 ((k:Int)+i) 0 (l[(i:Int).toNat]?.getD default).b (k - 1) sW hb3 hown sW) (tC ⟨F9,F9,H2⟩) fun v9 G9 Ho9 hle9 hp=>?_;obtain ⟨rfl,rfl,o9,d9,j9,how9,rfl⟩:=hp;refine aS 11 [] ?_;have e9:Bt k l.length i (l[(i:Int).toNat]?.getD default)=Ju ((k:Int)+i) (l[(i:Int).toNat]?.getD default).b 0 (k - 1):=JT hk hq.2 sX;rw [e9] at hT2;refine cM ((i+1,(cd++Ju ((k:Int)+i) (l[(i:Int).toNat]?.getD default).b 0 (k - 1),o9,d9,j9),(os++[((k:Int)+i)],a1,c1,junk1))) ?_ ?_
     · exact ⟨by omega,hT2.symm,hO2.symm,how9,ho1,by rw [←hT2];exact hcl2,hlen2 _⟩
     show l.length - (i+1)<l.length - i;omega
   · have hk:¬k=1:=sW;rw [Wm hk i] at hO2;refine fR 99 F9 (show _=Value.int .i64 ((k - 1:Nat):Int) by rw [hn1]) ?_;refine fA (fst:=[]) (cap:=[.pointer (some ⟨b3,0,none⟩)]) 1 F9 T.fn89 F9 F9 (ki G1 hT1 b2 b3 _ _ o d cd jj a1 (os++[((k:Int)+i)]).length c1 ((k:Int)+i) ((k:Int) - 1) (l[(i:Int).toNat]?.getD default).a (k - 1) sW hb3 hown sW) (tC ⟨F9,F9,H2⟩) fun v9 G9 Ho9 hle9 hp=>?_;obtain ⟨rfl,rfl,o9,d9,j9,how9,rfl⟩:=hp;refine aS 11 [] ?_;have e9:Bt k l.length i (l[(i:Int).toNat]?.getD default)=Ju ((k:Int)+i) (l[(i:Int).toNat]?.getD default).a ((k:Int) - 1) (k - 1):=DU hk sX sX;rw [e9] at hT2;refine cM ((i+1,(cd++Ju ((k:Int)+i) (l[(i:Int).toNat]?.getD default).a ((k:Int) - 1) (k - 1),o9,d9,j9),(os++[((k:Int)+i)],a1,c1,junk1))) ?_ ?_
     · exact ⟨by omega,hT2.symm,hO2.symm,how9,ho1,by rw [←hT2];exact hcl2,hlen2 _⟩
     show l.length - (i+1)<l.length - i;omega
   have hk:¬k=1:=sW;rw [Wm hk i] at hO2;have e9:Bt k l.length i (l[(i:Int).toNat]?.getD default)=KT k ((k:Int)+i) ((k:Int)+l.length) (l[(i:Int).toNat]?.getD default).a (l[(i:Int).toNat]?.getD default).b ((k:Int) - 1) (k - 1):=JU hk sX sX;rw [e9] at hT2;refine iP 14 F9 (show _=Value.int .i64 (((k - 1:Nat):Int) - 1) by rw [hn1];congr 1;omega) ?_;refine fX (ι:=Nat×Int×(List Sl.Instr×Option Addr×Nat×List Value)) (fun (m,fr,(ce,o',d',jj'))=>([(14,.int .i64 ((m:Int) - 1)),(13,.int .i64 fr),(43,.int .i64 (i:Int)),(42,.int .i64 (l.length:Int)),(41,.slice a l.length c),(6,.pointer (some ⟨b2,0,none⟩)),(4,.pointer (some ⟨b1,0,none⟩)),(9,.func (.func 89) #[] #[.pointer (some ⟨b3,0,none⟩)]),(8,.int .i64 ((k:Int)+l.length)),(7,.pointer (some ⟨b3,0,none⟩)),(5,.int .i64 0),(0,.int .i64 (k:Int)),(12,.int .i64 ((k:Int)+i)),(11,.pointer (some ⟨b4,0,none⟩))],[(0,some b1,.cells #[.int .i64 0,.int .i64 0,.slice none 0 0,.slice none 0 0] 26),(1,some b2,.cells #[.int .i64 (k:Int),.int .i64 ((k:Int)+l.length+1),.slice o' ce.length d',.slice a1 (os++[((k:Int)+i)]).length c1] 26),(2,o'.map (·.block),Row 91 ce jj'),(3,a1.map (·.block),Row 3 (os++[((k:Int)+i)]) junk1),(4,some b4,.cells #[.int .i64 (l[(i:Int).toNat]?.getD default).a,.int .i64 (l[(i:Int).toNat]?.getD default).b] 52),(5,some b5,Row (α:=Int) 3 ([(↑k:Int)+(↑i:Int)]) ([]))])) (fun (m,fr,(ce,o',d',jj'))=>m≤k - 1∧ce++KT k ((k:Int)+i) ((k:Int)+l.length) (l[(i:Int).toNat]?.getD default).a (l[(i:Int).toNat]?.getD default).b fr m=cd++KT k ((k:Int)+i) ((k:Int)+l.length) (l[(i:Int).toNat]?.getD default).a (l[(i:Int).toNat]?.getD default).b ((k:Int) - 1) (k - 1)∧A4 o' d' ce jj'∧ce.length≤cd.length+9*(k - 1 - m)) (fun (m,fr,(ce,o',d',jj'))=>m) ((k - 1,(k:Int) - 1,(cd,o,d,jj))) (⟨aI _,F9,hown,Nat.le_add_right _ _⟩) ⟨F9,F9,F9,F9,F9,F9,F9,F9,F9,F9,F9,F9,F9,F9,H2⟩ ⟨F9,F9,F9,F9,F9,F9,H2⟩ fun ⟨m,fr,(ce,o',d',jj')⟩=>fun hk=>?_;obtain ⟨hm,hce,hown',hcel⟩:=hk;rcases gK m with hm0 | hm0
   · subst hm0;rw [PN,bB] at hce;refine bG 18 [0] ?_;rw [←hce] at hT2;refine cM ((i+1,(ce,o',d',jj'),(os++[((k:Int)+i)],a1,c1,junk1))) ?_ ?_
     · exact ⟨by omega,hT2.symm,hO2.symm,hown',ho1,by rw [←hT2];exact hcl2,hlen2 _⟩
     show l.length - (i+1)<l.length - i;omega
   obtain ⟨m,rfl⟩:∃ m',m=m'+1:=⟨m - 1,by omega⟩
   rw [PO] at hce;have hl1:=Wk ((k:Int)+i) fr (l[(i:Int).toNat]?.getD default).a;have hl2:=GJ ((k:Int)+l.length) (l[(i:Int).toNat]?.getD default).b (k - 1 - m) (m:Int);have hnm:((k - 1 - m:Nat):Int)=(k:Int) - 1 - m:=sW;refine iP 14 F9 (show _=Value.int .i64 (m:Int) by congr 1;omega) ?_;refine bL 13 [1] ?_;refine fL [4] [] T.mixed F9 ?_;refine eD 0 [] F9 (bV T.one150 F9 hcell) ?_;refine dP [[1],[2],[3],[4,4]] ?_;refine bE 5 ?_;refine cF F9 (c90 _ hT1 ((k:Int)+i) fr (l[(i:Int).toNat]?.getD default).a sW) ?_;refine cX 6 ?_;refine fA (fst:=[]) (cap:=[.pointer (some ⟨b2,0,none⟩)]) 1 F9 T.fn88 F9 F9 (cz G1 b2 _ _ o' d' ce jj' a1 (os++[((k:Int)+i)]).length c1 ((k:Int)+i) fr (l[(i:Int).toNat]?.getD default).a hown' sW) (tC ⟨F9,F9,H2⟩) fun v6 G6 Ho6 hle6 hp=>?_;obtain ⟨rfl,rfl,o6,d6,j6,how6,rfl⟩:=hp;refine fJ ?_;have hhb:∀ n:Nat,((n:Int)=(k:Int) - 1 - m)→(n % 2=0↔((k:Int) - 1 - m) % 2=0):=fun n h=>sW;refine lW 26 [4] ?_;refine dB (fun hc4=>?_) fun hc4=>?_;refine aH 4 [1] ?_;refine aQ (bV T.one150 F9 sX) ?_;refine aC 3 [] ?_;refine aQ (bP (cs:=[_,_,_,_,_]) T.st91 F9 F9 F9) ?_;rotate_left;refine aH 5 [4] ?_;apply bW 4 141 145 F9;intro hg1;refine aC 3 [] ?_;refine aQ (nI F9 F9 sW) ?_;refine aC 3 [] ?_;exact dI 4 0;intro hg1;refine aC 4 [] ?_;exact dI 4 0;refine aZ 3 [] ?_;refine dB (fun hc5=>?_) fun hc5=>?_;refine aH 1 [] ?_;refine aQ (bV T.one150 F9 sX) ?_;refine aC 3 [] ?_;refine aQ (bP (cs:=[_,_,_,_,_]) T.st91 F9 F9 F9) ?_;rotate_left;refine bL 8 [4] ?_;refine dB (fun hc6=>?_) fun hc6=>?_;refine aH 1 [] ?_;refine aQ (bV T.one150 F9 sX) ?_;refine aC 3 [] ?_;refine aQ (bP (cs:=[_,_,_,_,_]) T.st91 F9 F9 F9) ?_;rotate_left;refine aH 8 [4] ?_;rotate_left
   · skip;refine fA (fst:=[]) (cap:=[.pointer (some ⟨b2,0,none⟩)]) 1 F9 T.fn88 F9 F9 (UY _ b2 _ _ o6 d6 (ce++Kk ((k:Int)+i) fr (l[(i:Int).toNat]?.getD default).a) j6 a1 (os++[((k:Int)+i)]).length c1 3 ((k:Int)+i) ((k:Int)+i) (m:Int) 0 tG how6 EL) (tC ⟨F9,F9,H2⟩) fun v7 G7 Ho7 hle7 hp=>?_;obtain ⟨rfl,rfl,o7,d7,j7,how7,rfl⟩:=hp;refine aS 9 [] ?_;refine cE 14 F9 (show _=Value.int .i64 ((m:Int) - 1) from F9) ?_;rw [show GD ((k:Int)+i) ((k:Int)+l.length) (l[(i:Int).toNat]?.getD default).b (m:Int) (k - 1 - m)=[⟨3,((k:Int)+i),((k:Int)+i),(m:Int),0⟩] from GK (.inl sX)] at hce;refine cM ((m,((k:Int)+i),(ce++Kk ((k:Int)+i) fr (l[(i:Int).toNat]?.getD default).a++[⟨3,((k:Int)+i),((k:Int)+i),(m:Int),0⟩],o7,d7,j7))) ?_ ?_
     · refine ⟨by omega,?_,how7,by simp only [aB,aY,cH];omega⟩;rw [←hce];simp only [aR]
     show m<m+1;omega
   · skip;refine fA (fst:=[]) (cap:=[.pointer (some ⟨b2,0,none⟩)]) 1 F9 T.fn88 F9 F9 (UY _ b2 _ _ o6 d6 (ce++Kk ((k:Int)+i) fr (l[(i:Int).toNat]?.getD default).a) j6 a1 (os++[((k:Int)+i)]).length c1 3 ((k:Int)+i) ((k:Int)+i) (m:Int) 0 tG how6 EL) (tC ⟨F9,F9,H2⟩) fun v7 G7 Ho7 hle7 hp=>?_;obtain ⟨rfl,rfl,o7,d7,j7,how7,rfl⟩:=hp;refine aS 9 [] ?_;refine cE 14 F9 (show _=Value.int .i64 ((m:Int) - 1) from F9) ?_;rw [show GD ((k:Int)+i) ((k:Int)+l.length) (l[(i:Int).toNat]?.getD default).b (m:Int) (k - 1 - m)=[⟨3,((k:Int)+i),((k:Int)+i),(m:Int),0⟩] from GK (.inr sW)] at hce;refine cM ((m,((k:Int)+i),(ce++Kk ((k:Int)+i) fr (l[(i:Int).toNat]?.getD default).a++[⟨3,((k:Int)+i),((k:Int)+i),(m:Int),0⟩],o7,d7,j7))) ?_ ?_
     · refine ⟨by omega,?_,how7,by simp only [aB,aY,cH];omega⟩;rw [←hce];simp only [aR]
     show m<m+1;omega
   · skip;refine fA (fst:=[]) (cap:=[.pointer (some ⟨b2,0,none⟩)]) 1 F9 T.fn88 F9 F9 (UY _ b2 _ _ o6 d6 (ce++Kk ((k:Int)+i) fr (l[(i:Int).toNat]?.getD default).a) j6 a1 (os++[((k:Int)+i)]).length c1 4 ((k:Int)+i) ((k:Int)+i) (m:Int) 0 tG how6 EL) (tC ⟨F9,F9,H2⟩) fun v7 G7 Ho7 hle7 hp=>?_;obtain ⟨rfl,rfl,o7,d7,j7,how7,rfl⟩:=hp;refine aS 9 [] ?_;refine cE 14 F9 (show _=Value.int .i64 ((m:Int) - 1) from F9) ?_;rw [show GD ((k:Int)+i) ((k:Int)+l.length) (l[(i:Int).toNat]?.getD default).b (m:Int) (k - 1 - m)=[⟨4,((k:Int)+i),((k:Int)+i),(m:Int),0⟩] from VA (fun h=>by first | omega | (rcases h with h | h <;> omega)) sX] at hce;refine cM ((m,((k:Int)+i),(ce++Kk ((k:Int)+i) fr (l[(i:Int).toNat]?.getD default).a++[⟨4,((k:Int)+i),((k:Int)+i),(m:Int),0⟩],o7,d7,j7))) ?_ ?_
     · refine ⟨by omega,?_,how7,by simp only [aB,aY,cH];omega⟩;rw [←hce];simp only [aR]
     show m<m+1;omega
   refine fR 126 F9 (show _=Value.int .i64 ((k - 1 - m:Nat):Int) by rw [hnm]) ?_;have hb9:(l[(i:Int).toNat]?.getD default).b≠0:=by assumption
   refine fA (fst:=[]) (cap:=[.pointer (some ⟨b3,0,none⟩)]) 1 F9 T.fn89 F9 F9 (ki _ sX b2 b3 _ _ o6 d6 (ce++Kk ((k:Int)+i) fr (l[(i:Int).toNat]?.getD default).a) j6 a1 (os++[((k:Int)+i)]).length c1 ((k:Int)+l.length) (m:Int) (l[(i:Int).toNat]?.getD default).b (k - 1 - m) sW hb3 how6 (by simp only [aB];omega)) (tC ⟨F9,F9,H2⟩) fun v7 G7 Ho7 hle7 hp=>?_;obtain ⟨rfl,rfl,o7,d7,j7,how7,rfl⟩:=hp;refine aL 3 [] ?_;refine aQ (bV T.one150 F9 sX) ?_;refine aC 3 [] ?_;refine aQ (bP (cs:=[_,_,_,_,_]) T.st91 F9 F9 F9) ?_;refine fA (fst:=[]) (cap:=[.pointer (some ⟨b2,0,none⟩)]) 1 F9 T.fn88 F9 F9 (UY _ b2 _ _ o7 d7 (ce++Kk ((k:Int)+i) fr (l[(i:Int).toNat]?.getD default).a++Ju ((k:Int)+l.length) (l[(i:Int).toNat]?.getD default).b (m:Int) (k - 1 - m)) j7 a1 (os++[((k:Int)+i)]).length c1 3 ((k:Int)+i) ((k:Int)+i) ((k:Int)+l.length) 0 tG how7 EL) (tC ⟨F9,F9,H2⟩) fun v8 G8 Ho8 hle8 hp=>?_;obtain ⟨rfl,rfl,o8,d8,j8,how8,rfl⟩:=hp;refine aS 9 [] ?_;refine cE 14 F9 (show _=Value.int .i64 ((m:Int) - 1) from F9) ?_;rw [show GD ((k:Int)+i) ((k:Int)+l.length) (l[(i:Int).toNat]?.getD default).b (m:Int) (k - 1 - m)=Ju ((k:Int)+l.length) (l[(i:Int).toNat]?.getD default).b (m:Int) (k - 1 - m)++[⟨3,((k:Int)+i),((k:Int)+i),((k:Int)+l.length),0⟩] from VB (fun h=>by first | omega | (rcases h with h | h <;> omega)) sX] at hce;refine cM ((m,((k:Int)+i),(ce++Kk ((k:Int)+i) fr (l[(i:Int).toNat]?.getD default).a++Ju ((k:Int)+l.length) (l[(i:Int).toNat]?.getD default).b (m:Int) (k - 1 - m)++[⟨3,((k:Int)+i),((k:Int)+i),((k:Int)+l.length),0⟩],o8,d8,j8))) ?_ ?_
   · refine ⟨by omega,?_,how8,by simp only [aB,aY,cH];omega⟩;rw [←hce];simp only [aR]
   show m<m+1;omega
 have hin:i=l.length:=sW;have hcd':cd=(evP k l).code:=by rw [hcd,hin,bD];rfl
 have hos':os=(evP k l).outs:=by rw [hos,hin];rfl
 refine bG 20 [0,1,0] ?_;refine jJ ?_;refine dD 2 F9 hown (fun G8 hle8 hA8=>dD 3 F9 hoo (fun G9 hle9 hA9=>?_));refine iC (.inr F9) (Ho:=[]) F9 (.agg 0 F9 F9 T.agg26) (.tmp F9) H2 ?_;clear hcd hos;subst hcd' hos';exact ⟨o,oo,d,od,F9,hA8.up hle9,hA9,F9⟩
end
theorem Lr (G:A3) (b:Nat) (n m:Int) (sv wv:Value) (hn:0≤n∧n≤1000) (hm:0≤m∧m≤1000) :
 Does Tryz.prog 196 [.pointer (some ⟨b,0,none⟩),.int .i64 m] G [(0,some b,.cells #[.int .i64 n,sv,wv] 267)] (fun v G' Ho=>v=.int .i64 (n+m)∧G'=G∧Ho=[(0,some b,.cells #[.int .i64 n,sv,wv] 267)]):=by
 refine D0 Tryz.func196 Tryz.ntmps196 fun w=>?_;refine bG 17 [0] ?_;refine cK (.inr F9) (Ho:=[(0,some b,.cells #[.int .i64 n,sv,wv] 267)]) F9 (.tmp F9) ⟨F9,H2⟩ ?_;exact ⟨F9,F9,F9⟩
theorem Ls (G:A3) (b:Nat) (n m:Int) (sv wv:Value) (hn:0≤n∧n≤1000) (hm:0≤m∧m≤1000) :
 Does Tryz.prog 233 [.pointer (some ⟨b,0,none⟩),.int .i64 m] G [(0,some b,.cells #[.int .i64 n,sv,wv] 267)] (fun v G' Ho=>v=.int .i64 (2*n+m)∧G'=G∧Ho=[(0,some b,.cells #[.int .i64 n,sv,wv] 267)]):=by
 refine D0 Tryz.func233 Tryz.ntmps233 fun w=>?_;refine aH 11 [0] ?_;refine aQ (mD F9 F9 sW) ?_;refine aS 6 [] ?_;refine cK (.inr F9) (Ho:=[(0,some b,.cells #[.int .i64 n,sv,wv] 267)]) F9 (.tmp F9) ⟨F9,H2⟩ ?_;exact ⟨F9,F9,F9⟩
theorem AV (G:A3) (b:Nat) (n:Int) (sv wv:Value) (hn:0≤n∧n≤1000) :
 Does Tryz.prog 231 [.pointer (some ⟨b,0,none⟩)] G [(0,some b,.cells #[.int .i64 n,sv,wv] 267)] (fun v G' Ho=>v=.int .i64 (3*n)∧G'=G∧Ho=[(0,some b,.cells #[.int .i64 n,sv,wv] 267)]):=by
 refine D0 Tryz.func231 Tryz.ntmps231 fun w=>?_;refine aH 11 [0] ?_;refine aQ (mD F9 F9 sW) ?_;refine aS 4 [] ?_;refine cK (.inr F9) (Ho:=[(0,some b,.cells #[.int .i64 n,sv,wv] 267)]) F9 (.tmp F9) ⟨F9,H2⟩ ?_;exact ⟨F9,F9,F9⟩
theorem kj (G:A3) (b:Nat) (n:Int) (ac:Option Addr) (cc:Nat) (code:List Sl.Instr) (j:List Value) (wa:Option Addr) (wn wc:Nat) (to x c:Int) (e:Nat) (ho:A4 ac cc code j) (hl:(code++Am to x c e).length≤1048576) (hc:-512≤c∧c≤512) (he:e≤1000) :
 Does Tryz.prog 230 [.pointer (some ⟨b,0,none⟩),.int .i64 to,.int .i64 x,.int .i64 c,.int .i64 e] G [(0,some b,.cells #[.int .i64 n,.slice ac code.length cc,.slice wa wn wc] 267),(1,ac.map (·.block),Row 91 code j)]
  (fun v G' Ho=>v=.tuple #[]∧G'=G∧∃ (a':Option Addr) (c':Nat) (j':List Value),A4 a' c' (code++Am to x c e) j'∧Ho=[(0,some b,.cells #[.int .i64 n,.slice a' (code++Am to x c e).length c',.slice wa wn wc] 267),(1,a'.map (·.block),Row 91 (code++Am to x c e) j')]):=by
 have hl0:code.length≤1048576:=by rw [aB] at hl;omega
 refine D0 Tryz.func230 Tryz.ntmps230 fun w=>?_;refine aH 6 [] ?_;apply bW 3 14 17 F9;intro hg1;refine aC 5 [] ?_;exact dI 3 0;intro hg1;refine aC 3 [] ?_;exact dI 3 0;refine aC 1 [] ?_;apply dZ 3 18 21 F9;intro hg1;refine aC 5 [] ?_;exact dI 3 0;intro hg1;refine aC 3 [] ?_;exact dI 3 0;refine aC 1 [] ?_;apply dZ 3 22 25 F9;intro hg1;refine aC 5 [] ?_;exact dI 3 0;intro hg1;refine aC 3 [] ?_;exact dI 3 0;refine aZ 2 [] ?_;refine dB (fun hc1=>?_) fun hc1=>?_;refine aH 6 [] ?_;apply bW 4 28 32 F9;intro hg1;refine aC 3 [] ?_;refine aQ (nI F9 F9 sW) ?_;refine aC 3 [] ?_;exact dI 4 0;intro hg1;refine aC 4 [] ?_;exact dI 4 0;refine aZ 2 [] ?_;refine dB (fun hc2=>?_) fun hc2=>?_;refine aH 10 [] ?_;refine eO 0 F9 T.fn195 F9 (Gi _ b n ac cc code j wa wn wc _ _ _ ho hl0) (tC ⟨F9,F9,H2⟩) fun v1 G1 Ho1 hle1 hp=>?_;obtain ⟨rfl,rfl,a1,d1,j1,ho1,rfl⟩:=hp;refine aS 4 [] ?_;rotate_left;refine aH 8 [] ?_;refine eO 0 F9 T.fn195 F9 (Gi _ b n ac cc code j wa wn wc _ _ _ ho hl0) (tC ⟨F9,F9,H2⟩) fun v1 G1 Ho1 hle1 hp=>?_;obtain ⟨rfl,rfl,a1,d1,j1,ho1,rfl⟩:=hp;refine aS 4 [] ?_;rotate_left;refine bL 17 [] ?_;rotate_left
 · have e1:Am to x c e=tE to x 1:=by unfold Am;rw [aE (by omega),aE (by omega)]
   rw [e1];refine kH zS (Ho:=[(0,some b,.cells #[.int .i64 n,.slice a1 (code++tE to x 1).length d1,.slice wa wn wc] 267),(1,a1.map (·.block),Row 91 (code++tE to x 1) j1)]) F9 ⟨F9,F9,H2⟩ ?_;exact ⟨F9,F9,a1,d1,j1,ho1,F9⟩
 · have e1:Am to x c e=tE to x c:=by unfold Am;rw [aE (by omega),aD (by omega)]
   rw [e1];refine kH zS (Ho:=[(0,some b,.cells #[.int .i64 n,.slice a1 (code++tE to x c).length d1,.slice wa wn wc] 267),(1,a1.map (·.block),Row 91 (code++tE to x c) j1)]) F9 ⟨F9,F9,H2⟩ ?_;exact ⟨F9,F9,a1,d1,j1,ho1,F9⟩
 have hT0:code++Qb to c x 1 e=code++Am to x c e:=by unfold Am;rw [aD (by omega)]
 generalize code++Am to x c e=Tg at *;refine fX (ι:=Nat×Int×Int×List Sl.Instr×(Option Addr×Nat×List Value)) (fun (t,fr,k,cd,(o,d,q))=>([(40,.int .i64 (t:Int)),(11,.int .i64 k),(10,.int .i64 fr),(39,Go.Value.int Go.IntKind.i64 (↑e:Int)),(0,Go.Value.pointer (Option.some (Go.Addr.mk b 0 Option.none))),(1,Go.Value.int Go.IntKind.i64 to),(3,Go.Value.int Go.IntKind.i64 c)],[(0,some b,.cells #[.int .i64 n,.slice o cd.length d,.slice wa wn wc] 267),(1,o.map (·.block),Row 91 cd q)])) (fun (t,fr,k,cd,(o,d,q))=>t≤e∧(-512≤k∧k≤512)∧cd++Qb to c fr k (e - t)=Tg∧A4 o d cd q) (fun (t,fr,k,cd,(o,d,q))=>e - t) ((0,x,1,code,(ac,cc,j))) (⟨aN _,by omega,hT0,ho⟩) ⟨F9,F9,F9,F9,F9,F9,F9,H2⟩ ⟨F9,F9,H2⟩ fun ⟨t,fr,k,cd,(o,d,q)⟩=>fun hk=>?_;obtain ⟨ht1,ht2,ht3,ht4⟩:=hk;have htl:cd.length≤1048576:=by rw [←ht3,aB] at hl;omega
 have hkc:(k*c).natAbs≤512*512:=by rw [gG];exact gV sW sW
 have hkc2:-9223372036854775808≤k*c∧k*c≤9223372036854775807:=sW;have hkc3:-9223372036854775808≤1*c∧1*c≤9223372036854775807:=sW;rcases aK t e with hte | hte
 · have e2:e - t=(e - (t+1))+1:=sW;rw [e2] at ht3;unfold Qb at ht3;refine aH 16 [1] ?_;refine aQ (mD F9 F9 sW) ?_;refine aC 2 [] ?_;apply dZ 5 46 51 F9;intro hg1;refine aC 5 [] ?_;refine aQ (mD F9 F9 sW) ?_;refine aC 3 [] ?_;exact dI 5 0;intro hg1;refine aC 5 [] ?_;exact dI 5 0;refine aZ 2 [] ?_;refine dB (fun hc2=>?_) fun hc2=>?_;refine aH 6 [] ?_;refine eO 0 F9 T.fn195 F9 (Gi _ b n o d cd q wa wn wc _ _ _ ht4 htl) (tC ⟨F9,F9,H2⟩) fun v1 G1 Ho1 hle1 hp=>?_;obtain ⟨rfl,rfl,a1,d1,j1,ho1,rfl⟩:=hp;refine aL 11 [] ?_;refine aQ (mD F9 F9 sW) ?_;refine aS 8 [] ?_;rotate_left;refine aH 5 [] ?_;refine aQ (mD F9 F9 sW) ?_;refine aS 8 [] ?_;rotate_left
   · refine cE 40 F9 (show _=Value.int .i64 ((t+1:Nat):Int) from F9) ?_;refine cE 11 F9 (show _=Value.int .i64 c by rw [dW]) ?_;refine cM ((t+1,to,c,cd++tE to fr k,(a1,d1,j1))) ?_ ?_
     · rw [aE hc2,←aR] at ht3;exact ⟨hte,hc,ht3,ho1⟩
     show e - (t+1)<e - t;omega
   refine cE 40 F9 (show _=Value.int .i64 ((t+1:Nat):Int) from F9) ?_;refine cM ((t+1,fr,k*c,cd,(o,d,q))) ?_ ?_
   · rw [aD hc2] at ht3;exact ⟨hte,by omega,ht3,ht4⟩
   show e - (t+1)<e - t;omega
 have hte:t=e:=sW;subst hte;rw [iW] at ht3;have ht3:cd++tE to fr k=Tg:=ht3;subst ht3;refine aH 17 [0] ?_;refine eO 0 F9 T.fn195 F9 (Gi _ b n o d cd q wa wn wc _ _ _ ht4 htl) (tC ⟨F9,F9,H2⟩) fun v1 G1 Ho1 hle1 hp=>?_;obtain ⟨rfl,rfl,a1,d1,j1,ho1,rfl⟩:=hp;refine eT ?_;refine kH zS (Ho:=[(0,some b,.cells #[.int .i64 n,.slice a1 (cd++tE to fr k).length d1,.slice wa wn wc] 267),(1,a1.map (·.block),Row 91 (cd++tE to fr k) j1)]) F9 ⟨F9,F9,H2⟩ ?_;exact ⟨F9,F9,a1,d1,j1,ho1,F9⟩
section
variable {P:Program} {e:A9} {H:Hp} {G:A3}
theorem Mw {ty:TypeId} {T et:TypeId} {len i:Nat} {x y:Operand} {cs:List Value} {v:Value} (hT:P.underlying T=some (.array len et)) (h1:P.plainKey et=true) (hs:(P.info? et).map (·.size)=some 1)
 (hx:e.ev x=some (.agg cs.toArray)) (hy:e.ev y=some (.int .i64 (i:Int))) (hi:i<len) (hv:cs[i]?=some v):Qy P (.index T x y) ty e H G v:=fun a w _ _ _ _ hh=>by
 have hp:(part et cs.toArray i).run P w=.ok v w:=by
  unfold Program.plainKey at h1;cases hu:P.underlying et with
  | none=>simp [hu] at h1
  | some d=>cases d <;> simp [hu] at h1 <;> simp [part,isAgg,dE hu,hv,Result.andThen]
 have hsz:=Go.Sl.run_sizeOf (P:=P) w hs;have h2:(0:Int)≤(i:Int)∧(i:Int)<(len:Int):=sW;simp only [execOp,hh.eval hx,hh.eval hy,Instr.index,asIntOf,dG,dT,bM,dE hT];rw [aE h2];simp only [dG,hsz,bM,aF,Nat.mul_one,hp,dT]
end
theorem PP:Tryz.prog.underlying 145=some (.array 2 3):=sZ
theorem WO:Tryz.prog.plainKey 3=true:=sZ
theorem de:(Tryz.prog.info? 3).map (·.size)=some 1:=sZ
theorem Lt (a b:Int):∀ (n k j:Nat),k≤j→j<OU a b n k→Ev a b (j:Int)=false∧Ev a b (-(j:Int))=false
 | 0,k,j,h1,h2=>by unfold OU at h2;omega
 | n+1,k,j,h1,h2=>by
   unfold OU at h2;split at h2
   · omega
   rename_i hh;by_cases hjk:j=k
   · subst hjk;cases h3:Ev a b (j:Int) <;> cases h4:Ev a b (-(j:Int)) <;> simp [h3,h4] at hh ⊢
   exact Lt a b n (k+1) j sW h2
theorem YP (G:A3) (x y:Int) (hn:near x y) (h0:¬(x=0∧y=0)) :
 Does Tryz.prog 192 [.agg #[.int .i64 x,.int .i64 y]] G [] (fun v G' Ho=>v=.tuple #[.int .i64 (Int.gcd x y),.int .i64 (bezS x y),.int .i64 (bezT x y),.int .i64 0]∧G'=G∧Ho=[]):=by
 have hn2:=hn;unfold near at hn2;refine D0 Tryz.func192 Tryz.ntmps192 fun w=>?_;obtain ⟨hb1,hb2,hb3,hb4⟩:=Fq hn h0;have q1:=xJ x (Int.gcd x y);have hg0:0<Int.gcd x y:=Nat.pos_of_ne_zero fun h1=>h0 (Int.gcd_eq_zero_iff.mp h1);have hg16:Int.gcd x y≤16:=by
  by_cases ha:x=0
  · have:=rS sW (show Int.gcd x y ∣ y.natAbs from Nat.gcd_dvd_right _ _);omega
  have:=rS sW (show Int.gcd x y ∣ x.natAbs from Nat.gcd_dvd_left _ _);omega
 refine aH 2 [] ?_;refine eC 0 fun b1=>?_;refine aL 12 [0,0] ?_;refine mW F9 T.fn227 F9 (ay _ _ _ sW sW) ?_;refine aL 8 [0] ?_;refine mW F9 T.fn72 F9 (c72 _ _ _) ?_;refine aQ (fS F9) ?_;refine aZ 3 [] ?_;refine dB (fun hc1=>?_) fun hc1=>?_;refine bG 11 [] ?_;refine Nk (.inr F9) (Ho:=Hp.only _ []) F9 (.tmp F9) (.tmp F9) (.tmp F9) (.tmp F9) (aU _ _) ?_;rotate_left;refine bL 16 [0,0] ?_;refine dB (fun hc2=>?_) fun hc2=>?_;refine dN ?_;refine fL [0] [] T.mixed F9 ?_;refine fE 0 [] sZ F9 F9 (dH F9) ?_;refine fE 1 [] sZ F9 F9 (gE T.fa52_0 F9) ?_;refine fE 2 [0] sZ F9 F9 (jN 0 T.one3 F9 F9 F9) ?_;refine fE 3 [] sZ F9 F9 (dH F9) ?_;refine fE 4 [] sZ F9 F9 (oK F9 F9 sW sW) ?_;refine fE 5 [] sZ F9 F9 (kA F9) ?_;refine fE 6 [] sZ F9 F9 (kA F9) ?_;refine fE 7 [] sZ F9 F9 (kA F9) ?_;refine fE 8 [] sZ F9 F9 (kA F9) ?_;refine iF sZ ⟨F9,H2⟩ wF ?_;refine dO 4 [] ?_;refine Nk (.inr F9) (Ho:=Hp.only _ []) F9 (.tmp F9) (.tmp F9) (.tmp F9) (.tmp F9) (aU _ _) ?_;rotate_left;refine bL 9 [] ?_;rotate_left
 · exact absurd hn hc1
 · refine ⟨?_,F9,F9⟩;unfold bezS bezT;rw [aE hc2,aE hc2]
 refine iA (ι:=Nat) (fun k=>([(7,.int .i64 (k:Int)),(6,Go.Value.int Go.IntKind.i64 (↑(Int.gcd x y):Int)),(1,Go.Value.pointer (Option.some (Go.Addr.mk b1 0 Option.none)))],[(0,Option.some b1,Go.Obj.cells #[Go.Value.int Go.IntKind.i64 x,Go.Value.int Go.IntKind.i64 y] 52)])) (fun k=>k≤Cv x y) (fun k=>Cv x y+1 - k) (0) (aN _) fun k=>fun (hk:k≤Cv x y)=>?_;have hm1:((k:Int)*x).natAbs≤15*16:=by rw [gG];exact gV sW sW
 have hm2:(-(k:Int)*x).natAbs≤15*16:=by rw [gG];exact gV sW sW
 have hm3:-9223372036854775808≤(k:Int)*x∧(k:Int)*x≤9223372036854775807:=sW;have hm4:-9223372036854775808≤-(k:Int)*x∧-(k:Int)*x≤9223372036854775807:=sW;refine aH 6 [] ?_;refine aQ (rD F9 sW) ?_;refine aQ (Kq (cs:=[_,_]) T.ar145 F9 F9 F9) ?_;refine aZ 4 [] ?_;refine iA (ι:=Nat) (fun i=>([(37,.int .i64 (i:Int)),(7,.int .i64 (k:Int)),(36,Go.Value.agg #[Go.Value.int Go.IntKind.i64 (↑k:Int),Go.Value.int Go.IntKind.i64 (-(↑k:Int))]),(6,Go.Value.int Go.IntKind.i64 (↑(Int.gcd x y):Int)),(1,Go.Value.pointer (Option.some (Go.Addr.mk b1 0 Option.none)))],[(0,Option.some b1,Go.Obj.cells #[Go.Value.int Go.IntKind.i64 x,Go.Value.int Go.IntKind.i64 y] 52)])) (fun i=>i≤2∧(1≤i→Ev x y (k:Int)=false)∧(2≤i→Ev x y (-(k:Int))=false)) (fun i=>2 - i) (0) (⟨aN _,fun h=>absurd h sW,fun h=>absurd h sW⟩) fun i=>fun hk=>?_;obtain ⟨hi1,hi2,hi3⟩:=hk;have hcase:i=0∨i=1∨i=2:=sW;have q2:=xJ ((Int.gcd x y:Int) - (k:Int)*x) y;have q3:=xJ ((Int.gcd x y:Int) - -(k:Int)*x) y;have hit:∀ s:Int,Ev x y s=true↔((Int.gcd x y:Int) - s*x).tmod y=0:=fun s=>by unfold Ev;rw [beq_iff_eq]
 rcases hcase with hi | hi | hi
 · subst hi;refine aH 13 [1] ?_;refine aQ (Mw (i:=0) (cs:=[.int .i64 (k:Int),.int .i64 (-(k:Int))]) PP WO de F9 F9 tG F9) ?_;refine aL 9 [0] ?_;refine aQ (mD F9 F9 sW) ?_;refine aC 3 [0] ?_;refine aQ (sN F9 F9 sW) ?_;refine aZ 3 [] ?_;refine dB (fun hc3=>?_) fun hc3=>?_;refine dN ?_;refine fL [0] [] T.mixed F9 ?_;refine fE 0 [] sZ F9 F9 (dH F9) ?_;refine fE 1 [] sZ F9 F9 (dH F9) ?_;refine fE 2 [] sZ F9 F9 (dH F9) ?_;refine fE 3 [] sZ F9 F9 (dH F9) ?_;refine fE 4 [] sZ F9 F9 (gE T.fa52_0 F9) ?_;refine fE 5 [0] sZ F9 F9 (jN 0 T.one3 F9 F9 F9) ?_;refine fE 6 [] sZ F9 F9 (mD F9 F9 sW) ?_;refine fE 7 [] sZ F9 F9 (Qy.sub F9 F9 sW) ?_;refine fE 8 [] sZ F9 F9 (gE T.fa52_1 F9) ?_;refine fE 9 [0] sZ F9 F9 (jN 0 T.one3 F9 F9 F9) ?_;refine fE 10 [] sZ F9 F9 (oK F9 F9 sW sW) ?_;refine fE 11 [] sZ F9 F9 (kA F9) ?_;refine fE 12 [] sZ F9 F9 (kA F9) ?_;refine fE 13 [] sZ F9 F9 (kA F9) ?_;refine fE 14 [] sZ F9 F9 (kA F9) ?_;refine iF sZ ⟨F9,H2⟩ wF ?_;refine dO 10 [] ?_;refine Nk (.inr F9) (Ho:=Hp.only _ []) F9 (.tmp F9) (.tmp F9) (.tmp F9) (.tmp F9) (aU _ _) ?_;rotate_left;refine bG 7 [] ?_;rotate_left
   · have hkk:k=Cv x y:=by
      rcases aK k (Cv x y) with h | h
      · have:=(Lt x y 16 0 k (aN _) h).1;rw [(hit _).2 hc3] at this;cases this
      omega
     have hs:bezS x y=k:=by unfold bezS;rw [aD hc2,←hkk,aE ((hit _).2 hc3)]
     have ht:bezT x y=((Int.gcd x y:Int) - (k:Int)*x).tdiv y:=by unfold bezT;rw [aD hc2,hs]
     refine ⟨by rw [hs,ht],F9,F9⟩
   refine cE 37 F9 (show _=Value.int .i64 ((1:Nat):Int) from F9) ?_;refine cM (1) ?_ ?_
   · refine ⟨by omega,fun _=>?_,fun h=>absurd h sW⟩;cases hh:Ev x y (k:Int)
     · rfl
     exact absurd ((hit _).1 hh) hc3
   show 2 - 1<2 - 0;omega
 · subst hi;refine aH 13 [1] ?_;refine aQ (Mw (i:=1) (cs:=[.int .i64 (k:Int),.int .i64 (-(k:Int))]) PP WO de F9 F9 tG F9) ?_;refine aL 9 [0] ?_;refine aQ (mD F9 F9 sW) ?_;refine aC 3 [0] ?_;refine aQ (sN F9 F9 sW) ?_;refine aZ 3 [] ?_;refine dB (fun hc3=>?_) fun hc3=>?_;refine dN ?_;refine fL [0] [] T.mixed F9 ?_;refine fE 0 [] sZ F9 F9 (dH F9) ?_;refine fE 1 [] sZ F9 F9 (dH F9) ?_;refine fE 2 [] sZ F9 F9 (dH F9) ?_;refine fE 3 [] sZ F9 F9 (dH F9) ?_;refine fE 4 [] sZ F9 F9 (gE T.fa52_0 F9) ?_;refine fE 5 [0] sZ F9 F9 (jN 0 T.one3 F9 F9 F9) ?_;refine fE 6 [] sZ F9 F9 (mD F9 F9 sW) ?_;refine fE 7 [] sZ F9 F9 (Qy.sub F9 F9 sW) ?_;refine fE 8 [] sZ F9 F9 (gE T.fa52_1 F9) ?_;refine fE 9 [0] sZ F9 F9 (jN 0 T.one3 F9 F9 F9) ?_;refine fE 10 [] sZ F9 F9 (oK F9 F9 sW sW) ?_;refine fE 11 [] sZ F9 F9 (kA F9) ?_;refine fE 12 [] sZ F9 F9 (kA F9) ?_;refine fE 13 [] sZ F9 F9 (kA F9) ?_;refine fE 14 [] sZ F9 F9 (kA F9) ?_;refine iF sZ ⟨F9,H2⟩ wF ?_;refine dO 10 [] ?_;refine Nk (.inr F9) (Ho:=Hp.only _ []) F9 (.tmp F9) (.tmp F9) (.tmp F9) (.tmp F9) (aU _ _) ?_;rotate_left;refine bG 7 [] ?_;rotate_left
   · have hkk:k=Cv x y:=by
      rcases aK k (Cv x y) with h | h
      · have:=(Lt x y 16 0 k (aN _) h).2;rw [(hit _).2 hc3] at this;cases this
      omega
     have hs:bezS x y=-k:=by unfold bezS;rw [aD hc2,←hkk,aD (by rw [hi2 sW];decide)]
     have ht:bezT x y=((Int.gcd x y:Int) - -(k:Int)*x).tdiv y:=by unfold bezT;rw [aD hc2,hs]
     refine ⟨by rw [hs,ht],F9,F9⟩
   refine cE 37 F9 (show _=Value.int .i64 ((2:Nat):Int) from F9) ?_;refine cM (2) ?_ ?_
   · refine ⟨by omega,fun _=>hi2 sW,fun _=>?_⟩;cases hh:Ev x y (-(k:Int))
     · rfl
     exact absurd ((hit _).1 hh) hc3
   show 2 - 2<2 - 1;omega
 subst hi;refine bG 18 [0] ?_;refine cE 7 F9 (show _=Value.int .i64 ((k+1:Nat):Int) from F9) ?_;refine cM (k+1) ?_ ?_
 · rcases aK k (Cv x y) with h | h
   · exact h
   have hkk:k=Cv x y:=sW;have h1:=hi2 sW;have h2:=hi3 sW;rw [hkk] at h1 h2;rw [h1,h2] at hb4;rcases hb4 with h | h | h
   · exact absurd h hc2
   · cases h
   cases h
 show Cv x y+1 - (k+1)<Cv x y+1 - k;omega
theorem Qm (l:List Int):tV l=l.map (Value.int .i64):=by
 induction l with
 | nil=>rfl
 | cons x l ih=>rw [xA,ih];rfl
theorem PQ (l l':List Int) (jk:List Value) (h:l'.length=l.length):Go.Sort.putCells (Value.int .i64) 0 l'.toArray (tV l++jk).toArray=(tV l'++jk).toArray:=by
 rw [Qm,Qm];apply Array.ext_getElem?;intro k;simp only [Go.Sort.putCells,Array.getElem?_mapIdx,lO,pN,aN,true_and,cS,nJ];by_cases hk:k<l'.length
 · rw [bJ Il,bJ Il,bK,bK,aA (show k<l.length by omega),aA hk];simp [hk]
 rw [cL Il,cL Il,aP,aP,h];cases jk[k - l.length]? with
 | none=>rfl
 | some v=>simp [hk];intro h2;omega
theorem JV {w:World} {G:A3} {b:Nat} {l:List Int} {jk:List Value} {E:TypeId} (hw:B3 [(0,some b,Row E l jk)] G w):Go.Sort.Holds (Value.int .i64) w b 0 l.toArray:=by
 intro j hj;have hj:j<l.length:=by simpa using hj
 have ho:w.heap[b]?=some (Row E l jk):=hw.own 0 b _ F9;constructor
 · show World.cell? w ⟨b,0+j,none⟩=_;unfold World.cell?;rw [show w.heap[(⟨b,0+j,none⟩:Addr).block]?=some (Row E l jk) from ho];show (tV l++jk).toArray[0+j]?=_;rw [cS,lO,Qm,bJ (by rw [aP];exact hj),bK,aA hj];simp [hj]
 show World.frozen? w ⟨b,0+j,none⟩=_;unfold World.frozen?;rw [show w.heap[(⟨b,0+j,none⟩:Addr).block]?=some (Row E l jk) from ho];show (decide (0≤0+j) && decide (0+j<0))=false;simp
theorem VD {w:World} {G:A3} {b n:Nat} {l l':List Int} {jk:List Value} {E:TypeId} {os:Array Obj} (hw:B3 [(0,some b,Row E l jk)] G w) (hlen:l'.length=l.length) {v:Value} :
 B8 G [(0,some b,Row E l jk)] w (fun v' G' Ho=>v'=v∧G'=G∧Ho=[(0,some b,Row E l' jk)]) (.returned v) (Go.Sort.grow (Go.Sort.putRow (Value.int .i64) (Go.Sort.ahead w n) b 0 l'.toArray) os):=by
 have ho:w.heap[b]?=some (Row E l jk):=hw.own 0 b _ F9;have hb:b<w.heap.size:=by
  rcases aK b w.heap.size with h | h
  · exact h
  rw [nS h] at ho;cases ho
 have hget:∀ k,k<w.heap.size→(Go.Sort.grow (Go.Sort.putRow (Value.int .i64) (Go.Sort.ahead w n) b 0 l'.toArray) os).heap[k]?=if b=k then some (Row E l' jk) else w.heap[k]?:=by
  intro k hk;show ((w.heap.modify b (Go.Sort.onCells (Go.Sort.putCells (Value.int .i64) 0 l'.toArray)))++os)[k]?=_;rw [pI (by rw [Array.size_modify];exact hk),qZ];split
  · rename_i e;subst e;rw [ho];show some (Obj.cells (Go.Sort.putCells (Value.int .i64) 0 l'.toArray (tV l++jk).toArray) E (0,0))=_;rw [PQ _ _ _ hlen];rfl
  rfl
 have hone:∀ {o':Obj} {t b':Nat} {o:Obj},Hp.get [(0,some b,o')] t=some (some b',o)→t=0∧b=b'∧o'=o:=by
  intro o' t b' o h;rw [bC] at h;split at h
  · rename_i e;simp at h;exact ⟨e.symm,h.1,h.2⟩
  simp [Hp.get] at h
 refine ⟨v,G,[(0,some b,Row E l' jk)],F9,⟨?_,?_,?_,?_⟩,bN _,⟨F9,F9,F9,?_,?_⟩,?_,?_,F9,F9,F9⟩
 · intro t b' o h;obtain ⟨_,e,e2⟩:=hone h;subst e;subst e2;rw [hget b hb,aE rfl]
 · intro t t' b' o o' h h';rw [(hone h).1,(hone h').1]
 · intro b' o h;have h1:=hw.imm b' o h;have h2:b'<w.heap.size:=by
    rcases aK b' w.heap.size with h | h
    · exact h
    rw [nS h] at h1;cases h1
   rw [hget b' h2,aD]
   · exact h1
   intro e;subst e;have:=hw.off 0 b _ F9;rw [h] at this;cases this
 · intro t b' o h;obtain ⟨_,e,_⟩:=hone h;subst e;exact hw.off 0 b _ F9
 · show w.heap.size≤((w.heap.modify b _)++os).size;rw [Array.size_append,Array.size_modify];omega
 · intro k hk hx;rw [hget k hk,aD];intro e;subst e;exact hx ⟨0,_,F9⟩
 · intro b' h h';exact absurd h' h
 intro t b' o h;obtain ⟨_,e,_⟩:=hone h;subst e;exact .inr ⟨0,_,F9⟩
theorem kl (G:A3) (b c:Nat) (l:List Int) (jk:List Value) (h:l.length<4611686018427387904) :
 Does Tryz.prog 190 [.slice (some ⟨b,0,none⟩) l.length c] G [(0,some b,Row 3 l jk)] (fun v G' Ho=>v=.tuple #[]∧G'=G∧Ho=[(0,some b,Row 3 (l.mergeSort fun x y=>decide (x≤y)) jk)]):=fun w hw=>by
 have ho:w.heap[b]?=some (Row 3 l jk):=hw.own 0 b _ F9;have hb:b<w.heap.size:=by
  rcases aK b w.heap.size with h | h
  · exact h
  rw [nS h] at ho;cases ho
 have h69:Calls Tryz.prog 190 #[.slice (some ⟨b,0,none⟩) l.length c] w _:=Any.slices_Sort_int Tryz.laysSort b 0 c l w (JV hw) hb h;refine h69.mono ?_;rintro e w' ⟨rfl,n,os,rfl⟩;exact VD hw (List.length_mergeSort l)
theorem df (G:A3) (c:Nat):Does Tryz.prog 190 [.slice none 0 c] G [] (fun v G' Ho=>v=.tuple #[]∧G'=G∧Ho=[]):=fun w hw=>by
 have h69:Calls Tryz.prog 190 #[.slice none 0 c] w _:=Any.slices_Sort_int_none Tryz.laysSort none c w;refine h69.mono ?_;rintro e w' ⟨rfl,rfl⟩;exact ⟨_,G,[],F9,hw,bN _,mX _ _,fun _ h h'=>absurd h' h,fun t b o h=>by simp [Hp.get] at h,F9,F9,F9⟩
theorem JW (l:List Int):(l.mergeSort fun x y=>decide (x≤y)).Pairwise (·≤·):=
 (List.pairwise_mergeSort (le:=fun x y:Int=>decide (x≤y)) (fun a b c h1 h2=>by simp at *;omega) (fun a b=>by simp;omega) l).imp (fun h=>by simpa using h)
section
attribute [local irreducible] uG
theorem dg (G:A3) (a b c d:Int) (h:near a b) (h':near c d):Does Tryz.prog 229 [.agg #[.int .i64 a,.int .i64 b],.agg #[.int .i64 c,.int .i64 d]] G [] (fun v G' Ho=>v=.tuple #[.int .i64 (a*d - c*b),.int .i64 0]∧G'=G∧Ho=[]):=
 (ia G a b c d).mono fun v G' Ho _ ⟨e1,e2,e3⟩=>⟨by rw [e1,aE ⟨h,h'⟩,aE ⟨h,h'⟩],e2,e3⟩
end
end Go.Proofs.YtkdelpdbjfpgmaaGreatDoor
