/- cK of the proof (part 3): what the rows' text needs of the texts that lead to it. -/
import Derived.Test.YtfdcckcadfhpeaaGreatDoorMAb
set_option linter.unusedVariables false
set_option linter.unusedSimpArgs false
set_option linter.unusedSectionVars false
set_option maxHeartbeats 4000000
set_option maxRecDepth 100000
namespace Go.Sl
open Go
theorem zA (P s:Int):P*(s % 4294967296)+4294967296*P*(s / 4294967296)=P*s:=by
 have h:=Int.emod_add_mul_ediv s 4294967296
 have e:4294967296*P*(s / 4294967296)=P*(4294967296*(s / 4294967296)):=by rw [Int.mul_comm 4294967296 P,Int.mul_assoc]
 rw [e,←Int.mul_add,h]
def lg (l:List U32) (i:Nat):Int:=(l[((i:Nat):Int).toNat]?.getD default).v
theorem jY {l:List U32} (h:Lims l) {i:Nat} (hi:i<l.length):0≤lg l i∧lg l i<4294967296:=h.at (by omega)
theorem mP {l:List U32} {i:Nat} (hi:l.length≤i):lg l i=0:=by
 unfold lg;rw [Int.toNat_natCast,List.getElem?_eq_none hi];rfl
theorem dL {l:List U32} (h:Lims l) (i:Nat):0≤lg l i∧lg l i<4294967296:=by
 rcases Nat.lt_or_ge i l.length with h1 | h1
 · exact jY h h1
 rw [mP h1];decide
theorem oH {l:List U32} {i:Nat} (h:i<l.length) (d:Int):lg (l.set i ⟨d⟩) i=d:=by
 unfold lg
 rw [Int.toNat_natCast,List.getElem?_eq_getElem (by rw [List.length_set];exact h),List.getElem_set_self];rfl
theorem gX {l:List U32} {i j:Nat} (h:i≠j) (d:U32):lg (l.set i d) j=lg l j:=by
 unfold lg
 rw [Int.toNat_natCast,List.getElem?_set_ne h]
theorem bY (l:List U32) (i:Nat):aB (l.take (i+1))=aB (l.take i)+pb i*lg l i:=by
 rcases Nat.lt_or_ge i l.length with h | h
 · exact mN h
 rw [aQ h,aQ (by omega),mP h,Int.mul_zero,Int.add_zero]
theorem eZ {l:List U32} {i:Nat} (h:i<l.length):aB (l.drop i)=lg l i+4294967296*aB (l.drop (i+1)):=by
 rw [List.drop_eq_getElem_cons h,cV]
 unfold lg
 rw [Int.toNat_natCast,List.getElem?_eq_getElem h];rfl
theorem jL (l:List U32) {m:Nat} (h:m≤l.length):aB l=aB (l.take m)+pb m*aB (l.drop m):=by
 have h1:aB l=aB (l.take m++l.drop m):=by rw [List.take_append_drop]
 rw [h1,cT,List.length_take,Nat.min_eq_left h]
theorem kN:∀ (l:List U32) (k:Nat) (d:U32),k<l.length→aB (l.set k d)=aB l+pb k*(d.v - lg l k)
 | [],k,d,h=>by simp at h
 | x :: l,0,d,_=>by
   rw [List.set_cons_zero,cV,cV,tA]
   show _=_+1*(d.v - x.v)
   omega
 | x :: l,k+1,d,h=>by
   have ih:=kN l k d (by simpa using h)
   have e:lg (x :: l) (k+1)=lg l k:=by unfold lg;rw [Int.toNat_natCast,Int.toNat_natCast,List.getElem?_cons_succ]
   rw [List.set_cons_succ,cV,cV,ih,fP,e,Int.mul_add,←Int.mul_assoc]
   omega
theorem bT {l:List U32} (h:Lims l) (k:Nat) {s:Int} (hs:0≤s∧s<4294967296):Lims (l.set k ⟨s⟩):=fun d hd=>by
 rcases List.mem_or_eq_of_mem_set hd with h1 | h1
 · exact h d h1
 subst h1;exact hs
theorem nW (s:Int):0≤s % 4294967296∧s % 4294967296<4294967296:=⟨Int.emod_nonneg _ (by decide),Int.emod_lt_of_pos _ (by decide)⟩
def Trim (l:List U32) (n:Nat):Prop:=n≤l.length∧(∀ j,n≤j→j<l.length→(l[j]?.getD default).v=0)∧(n=0∨(l[n - 1]?.getD default).v≠0)
theorem Trim.val {l:List U32} {n:Nat} (h:Trim l n):aB (l.take n)=aB l:=aHX h.2.1
theorem Trim.top {l:List U32} {n:Nat} (h:Trim l n):Top (l.take n):=by
 obtain ⟨h1,h2,h3⟩:=h
 rcases h3 with h3 | h3
 · subst h3;exact .inl rfl
 by_cases h0:n=0
 · subst h0;exact .inl rfl
 refine .inr ?_
 rw [List.length_take,Nat.min_eq_left h1,List.getElem?_take,if_pos (by omega)]
 exact h3
theorem mQ {α:Type} [Cells α] {G:Imm} {a:Option Addr} {c sz:Nat} {l:List α} (h:Arr G a l) (n:Nat):Arr G (subA a c 0 sz) (l.take n):=by
 refine ⟨aV _,?_⟩
 rcases h.2 with h0 | ⟨b,o,rfl,hr⟩
 · left;rw [List.length_take];omega
 refine .inr ⟨b,o,?_,fun i v hi=>hr i v ?_⟩
 · unfold subA
   split
   · rfl
   simp [Addr.add]
 have e:bH l=bH (l.take n)++bH (l.drop n):=by rw [←dZ,List.take_append_drop]
 rw [e,List.getElem?_append_left (List.getElem?_eq_some_iff.1 hi).1];exact hi
theorem pQ {la lb r:List U32} {i:Nat} {cy s:Int} (hi:i<r.length) (hv:aB (la.take i)+aB (lb.take i)=aB (r.take i)+pb i*cy) (hs:s=cy+lg la i+lg lb i) :
 aB (la.take (i+1))+aB (lb.take (i+1))=aB ((r.set i ⟨s % 4294967296⟩).take (i+1))+pb (i+1)*(s / 4294967296):=by
 rw [bY,bY,bY (r.set i _),oH hi,List.take_set_of_le (Nat.le_refl i),fP]
 have h:=zA (pb i) s
 rw [hs,Int.mul_add,Int.mul_add] at h
 rw [←hs] at h
 omega
theorem pR {la lb r:List U32} {i:Nat} {cy cy' s:Int} (hi:i<r.length) (hv:aB (la.take i) - aB (lb.take i)=aB (r.take i) - pb i*cy) (hs:s=lg la i - lg lb i - cy+4294967296*cy') :
 aB (la.take (i+1)) - aB (lb.take (i+1))=aB ((r.set i ⟨s⟩).take (i+1)) - pb (i+1)*cy':=by
 rw [bY,bY,bY (r.set i _),oH hi,List.take_set_of_le (Nat.le_refl i),fP]
 have h:pb i*s=pb i*lg la i - pb i*lg lb i - pb i*cy+4294967296*pb i*cy':=by
  rw [hs,Int.mul_add,Int.mul_sub,Int.mul_sub,←Int.mul_assoc,Int.mul_comm (pb i) 4294967296]
 omega
theorem aPL {la lb r:List U32} {n:Nat} {cy:Int} (hn:n=la.length) (hb:lb.length≤la.length) (hle:aB lb≤aB la) (hri:r.length=n) (hd:Lims r) (hc:0≤cy∧cy≤1) (hv:aB (la.take n) - aB (lb.take n)=aB (r.take n) - pb n*cy):aB r=aB la - aB lb:=by
 rw [aQ (by omega),aQ (by omega),aQ (by omega)] at hv
 have h:=eK hd
 rw [hri] at h
 have hcy:cy=0:=by
  rcases (show cy=0∨cy=1 by omega) with h1 | h1
  · exact h1
  rw [h1,Int.mul_one] at hv;omega
 rw [hcy,Int.mul_zero] at hv
 omega
theorem aHZ {r lb:List U32} {i j:Nat} {c s x A:Int} (hk:i+j<r.length) (hv:aB r+pb (i+j)*c=A+pb i*(x*aB (lb.take j))) (hs:s=c+(x*lg lb j+lg r (i+j))) :
 aB (r.set (i+j) ⟨s % 4294967296⟩)+pb (i+(j+1))*(s / 4294967296)=A+pb i*(x*aB (lb.take (j+1))):=by
 rw [kN r (i+j) ⟨s % 4294967296⟩ hk,bY,←Nat.add_assoc,fP]
 have h1:=zA (pb (i+j)) s
 have h2:pb (i+j)*s=pb (i+j)*c+(pb (i+j)*(x*lg lb j)+pb (i+j)*lg r (i+j)):=by rw [hs,Int.mul_add,Int.mul_add]
 have h3:pb i*(x*(aB (lb.take j)+pb j*lg lb j))=pb i*(x*aB (lb.take j))+pb (i+j)*(x*lg lb j):=by
  rw [Int.mul_add,Int.mul_add,aDT]
  congr 1
  rw [Int.mul_assoc,←Int.mul_assoc x,Int.mul_comm x (pb j),Int.mul_assoc]
 have h4:pb (i+j)*(s % 4294967296 - lg r (i+j))=pb (i+j)*(s % 4294967296) - pb (i+j)*lg r (i+j):=Int.mul_sub _ _ _
 show aB r+pb (i+j)*(s % 4294967296 - lg r (i+j))+4294967296*pb (i+j)*(s / 4294967296)=_
 rw [h3,h4]
 omega
theorem aKW {la lb r:List U32} {i:Nat} {c:Int} (hk:i+lb.length<r.length) (hz:lg r (i+lb.length)=0) (hv:aB r+pb (i+lb.length)*c=aB (la.take i)*aB lb+pb i*(lg la i*aB (lb.take lb.length))) :
 aB (r.set (i+lb.length) ⟨c⟩)=aB (la.take (i+1))*aB lb:=by
 rw [kN r _ _ hk,hz,aQ (Nat.le_refl _)] at *
 show aB r+pb (i+lb.length)*(c - 0)=_
 rw [Int.sub_zero,hv,bY,Int.add_mul,Int.mul_assoc]
theorem lN {x y:Int} (hx:0≤x∧x<4294967296) (hy:0≤y∧y<4294967296):0≤x*y∧x*y≤18446744065119617025:=by
 refine ⟨Int.mul_nonneg hx.1 hy.1,?_⟩
 have h1:x*y≤4294967295*y:=Int.mul_le_mul_of_nonneg_right (by omega) hy.1
 omega
theorem aAZ {la q:List U32} {i:Nat} {r B:Int} (hi:i<la.length) (hq:i<q.length) (hv:aB (la.drop (i+1))=aB (q.drop (i+1))*B+r) :
 aB (la.drop i)=aB ((q.set i ⟨(r*4294967296+lg la i) / B⟩).drop i)*B+(r*4294967296+lg la i) % B:=by
 rw [eZ hi,eZ (l:=q.set i _) (by rw [List.length_set];exact hq),oH hq,List.drop_set_of_lt (by omega),hv]
 have h:=Int.emod_add_mul_ediv (r*4294967296+lg la i) B
 rw [Int.add_mul,Int.mul_comm ((r*4294967296+lg la i) / B) B,Int.mul_assoc 4294967296,Int.mul_add]
 omega
theorem aIA {r a B:Int} (hr:0≤r∧r<B) (ha:0≤a∧a<4294967296):0≤(r*4294967296+a) / B∧(r*4294967296+a) / B<4294967296:=by
 refine ⟨Int.ediv_nonneg (by omega) (by omega),Int.ediv_lt_of_lt_mul (by omega) ?_⟩
 have h1:=Int.mul_le_mul_of_nonneg_right (show r+1≤B by omega) (show (0:Int)≤4294967296 by decide)
 rw [Int.mul_comm 4294967296 B]
 omega
theorem aKX {lb:List U32} (h:lb.length=1):aB lb=lg lb 0:=by
 match lb,h with
 | [d],_=>rw [mM];rfl
theorem aKY {x y:U32} (h:x.v=y.v):x=y:=by cases x;cases y;simp only at h;rw [h]
theorem uJ {la lb:List U32} {k:Nat} (hn:la.length=lb.length) (h:∀ j,k≤j→j<la.length→lg la j=lg lb j):la.drop k=lb.drop k:=by
 refine List.ext_getElem? fun i=>?_
 rw [List.getElem?_drop,List.getElem?_drop]
 rcases Nat.lt_or_ge (k+i) la.length with h1 | h1
 · have h2:=h (k+i) (by omega) h1
   unfold lg at h2
   rw [Int.toNat_natCast] at h2
   rw [List.getElem?_eq_getElem h1,List.getElem?_eq_getElem (by omega)] at h2 ⊢
   exact congrArg some (aKY h2)
 rw [List.getElem?_eq_none h1,List.getElem?_eq_none (by omega)]
theorem aBA {la lb:List U32} {k:Nat} (hn:la.length=lb.length) (hk:k<la.length) (da:Lims la) (db:Lims lb) (h:∀ j,k+1≤j→j<la.length→lg la j=lg lb j) (hlt:lg la k<lg lb k):aB la<aB lb:=by
 have e:=uJ hn h
 have h1:=jL la (show k+1≤la.length by omega)
 have h2:=jL lb (show k+1≤lb.length by omega)
 rw [e] at h1
 rw [bY] at h1 h2
 have h3:=eK (da.take k)
 rw [List.length_take,Nat.min_eq_left (by omega)] at h3
 have h4:=bS (db.take k)
 have h5:=Int.mul_le_mul_of_nonneg_left (show lg la k+1≤lg lb k by omega) (Int.le_of_lt (gG k))
 rw [Int.mul_add,Int.mul_one] at h5
 omega
theorem aKZ {p Ul U3 Vl V2 g:Int} (hp:0<p) (hUl:Ul<p) (hVl:0≤Vl) (hg:0≤g) (h:U3<g*V2):Ul+p*U3<g*(Vl+p*V2):=by
 have h1:=Int.mul_le_mul_of_nonneg_left (show U3+1≤g*V2 by omega) (Int.le_of_lt hp)
 have h2:=Int.mul_nonneg hg hVl
 rw [Int.mul_add,Int.mul_one] at h1
 rw [Int.mul_add,Int.mul_left_comm g p]
 omega
theorem aPM {p Ul U3 Vl V2 g:Int} (hp:0<p) (hUl:0≤Ul) (hVl:0≤Vl∧Vl<p) (hg:0≤g∧g<4294967296) (hV2:4294967296≤V2) (h:g*V2≤U3):(g - 1)*(Vl+p*V2)≤Ul+p*U3:=by
 have h1:=Int.mul_le_mul_of_nonneg_left h (Int.le_of_lt hp)
 have h2:=Int.mul_le_mul_of_nonneg_left (Int.le_of_lt hVl.2) hg.1
 have h3:=Int.mul_le_mul_of_nonneg_right (Int.le_of_lt hg.2) (Int.le_of_lt hp)
 have h4:=Int.mul_le_mul_of_nonneg_left hV2 (Int.le_of_lt hp)
 rw [Int.sub_mul,Int.one_mul,Int.mul_add,Int.mul_left_comm g p]
 rw [Int.mul_comm p 4294967296] at h4
 omega
theorem aLA {g v1 v2 high rest u2:Int} (h:g*v1+rest=high):g*(v2+4294967296*v1) - (u2+4294967296*high)=g*v2 - (rest*4294967296+u2):=by
 rw [Int.mul_add,Int.mul_left_comm g 4294967296,←h]
 omega
theorem aLB {g v1 high rest:Int} (h:g*v1+rest=high) (hr:4294967296≤rest) (hv:0<v1) (hh:high<v1*4294967296+4294967296):g<4294967296:=by
 rcases Int.lt_or_le g 4294967296 with h1 | h1
 · exact h1
 have h2:=Int.mul_le_mul_of_nonneg_right h1 (Int.le_of_lt hv)
 omega
section
variable {u v:List U32} {m:Nat}
theorem top3 (hu:u.length=m+3):aB u=aB (u.take m)+pb m*(lg u m+4294967296*(lg u (m+2)*4294967296+lg u (m+1))):=by
 have h0:=jL u (show m≤u.length by omega)
 rw [eZ (l:=u) (i:=m) (by omega),eZ (l:=u) (i:=m+1) (by omega),eZ (l:=u) (i:=m+1+1) (by omega),List.drop_eq_nil_of_le (show u.length≤m+1+1+1 by omega),bW] at h0
 rw [h0]
 congr 2
 show lg u m+4294967296*(lg u (m+1)+4294967296*(lg u (m+2)+4294967296*0))=_
 omega
theorem aLC (hv:v.length=m+2):aB v=aB (v.take m)+pb m*(lg v m+4294967296*lg v (m+1)):=by
 have h0:=jL v (show m≤v.length by omega)
 rw [eZ (l:=v) (i:=m) (by omega),eZ (l:=v) (i:=m+1) (by omega),List.drop_eq_nil_of_le (show v.length≤m+1+1 by omega),bW] at h0
 rw [h0]
 congr 2
 omega
theorem gH {l:List U32} (d:Lims l) (h:m≤l.length):0≤aB (l.take m)∧aB (l.take m)<pb m:=by
 have h1:=eK (d.take m)
 rw [List.length_take,Nat.min_eq_left h] at h1
 exact ⟨bS (d.take m),h1⟩
variable (hu:u.length=m+3) (hv:v.length=m+2) (du:Lims u) (dv:Lims v)
include hu hv du dv
theorem aLD {g rest high:Int} (hh:high=lg u (m+2)*4294967296+lg u (m+1)) (h1:0<lg v (m+1)) (hg:g=high / lg v (m+1)) (hr:rest=high % lg v (m+1)) :
 g*lg v (m+1)+rest=high∧0≤g∧0≤rest∧rest<lg v (m+1)∧aB u<(g+1)*aB v:=by
 have a1:=dL du (m+2)
 have a2:=dL du (m+1)
 have a3:=dL du m
 have a4:=dL dv m
 have hn:0≤high:=by omega
 have e1:=Int.emod_add_mul_ediv high (lg v (m+1))
 have e2:=Int.emod_lt_of_pos high h1
 have e3:=Int.emod_nonneg high (show lg v (m+1)≠0 by omega)
 have e4:=Int.ediv_nonneg hn (Int.le_of_lt h1)
 rw [←hg,←hr] at e1
 rw [←hr] at e2 e3
 rw [←hg] at e4
 rw [Int.mul_comm] at e1
 refine ⟨by omega,e4,e3,e2,?_⟩
 rw [top3 hu,aLC hv,←hh]
 refine aKZ (gG m) (gH du (by omega)).2 (gH dv (by omega)).1 (by omega) ?_
 have e5:(g+1)*lg v (m+1)=g*lg v (m+1)+lg v (m+1):=by rw [Int.add_mul,Int.one_mul]
 have e6:=Int.mul_nonneg (show 0≤g+1 by omega) a4.1
 rw [Int.mul_add,Int.mul_left_comm (g+1) 4294967296,e5]
 omega
theorem aRX {g rest high:Int} (hh:high=lg u (m+2)*4294967296+lg u (m+1)) (h:g*lg v (m+1)+rest=high) (hg:0≤g) (hc:rest*4294967296+lg u m<g*lg v m):aB u<g*aB v:=by
 have e:=aLA (v2:=lg v m) (u2:=lg u m) h
 rw [top3 hu,aLC hv,←hh]
 exact aKZ (gG m) (gH du (by omega)).2 (gH dv (by omega)).1 hg (by omega)
theorem aLE {g rest high:Int} (hh:high=lg u (m+2)*4294967296+lg u (m+1)) (h:g*lg v (m+1)+rest=high) (hg:0≤g∧g<4294967296) (h1:1≤lg v (m+1)) (hc:g*lg v m≤rest*4294967296+lg u m):(g - 1)*aB v≤aB u:=by
 have e:=aLA (v2:=lg v m) (u2:=lg u m) h
 have a4:=dL dv m
 rw [top3 hu,aLC hv,←hh]
 exact aPM (gG m) (gH du (by omega)).1 (gH dv (by omega)) hg (by omega) (by omega)
end
theorem jA {u v w:List U32} {i:Nat} {t c c' b b' s:Int} (hi:i<w.length) (hv:aB (u.take i) - t*aB (v.take i)=aB (w.take i) - pb i*(b+c)) (hc:c'=c+lg v i*t)
 (hs:s=lg u i - c' % 4294967296 - b+4294967296*b') :
 aB (u.take (i+1)) - t*aB (v.take (i+1))=aB ((w.set i ⟨s⟩).take (i+1)) - pb (i+1)*(b'+c' / 4294967296):=by
 rw [bY,bY,bY (w.set i _),oH hi,List.take_set_of_le (Nat.le_refl i),fP]
 have h1:=zA (pb i) c'
 have h2:pb i*c'=pb i*c+t*(pb i*lg v i):=by rw [hc,Int.mul_add,Int.mul_comm (lg v i) t,Int.mul_left_comm t]
 have h3:pb i*s=pb i*lg u i - pb i*(c' % 4294967296) - pb i*b+4294967296*pb i*b':=by
  rw [hs,Int.mul_add,Int.mul_sub,Int.mul_sub,←Int.mul_assoc,Int.mul_comm (pb i) 4294967296]
 rw [Int.mul_add] at hv
 rw [Int.mul_add t,Int.mul_add (4294967296*pb i)]
 omega
theorem aDV {c x t:Int} (hc:0≤c∧c<4294967296) (hx:0≤x∧x<4294967296) (ht:0≤t∧t<4294967296):0≤c+x*t∧c+x*t<18446744073709551616∧0≤(c+x*t) / 4294967296∧(c+x*t) / 4294967296<4294967296∧0≤x*t∧x*t≤18446744065119617025:=by
 have h:=lN hx ht
 omega
theorem aLF {u v w z:List U32} {n:Nat} {g c:Int} (hu:aB w=aB u - g*aB v+pb n) (hlow:(g - 1)*aB v≤aB u) (hup:aB u<g*aB v) (hw:w.length=n) (hz:z.length=n) (hvn:aB v<pb n) (hvl:v.length≤n) (dz:Lims z) (hc:0≤c∧c≤1)
 (hs:aB (w.take n)+aB (v.take n)=aB (z.take n)+pb n*c):aB z=aB u - (g - 1)*aB v:=by
 rw [aQ (by omega),aQ (by omega),aQ (by omega)] at hs
 have h1:=bS dz
 have h2:=eK dz
 rw [hz] at h2
 have e:(g - 1)*aB v=g*aB v - aB v:=by rw [Int.sub_mul,Int.one_mul]
 have hc1:c=1:=by
  rcases (show c=0∨c=1 by omega) with h | h
  · rw [h,Int.mul_zero] at hs;omega
  exact h
 rw [hc1,Int.mul_one] at hs
 omega
theorem aPN (p w w' q:List U32) (h:w'.length=w.length):aB (p++(w'++q))=aB (p++(w++q))+pb p.length*(aB w' - aB w):=by
 rw [cT,cT,cT,cT,h,Int.mul_add,Int.mul_add,Int.mul_sub]
 omega
theorem aLG {A V q g:Int} {R R':Int} {l:List U32} {k:Nat} (hk:k<l.length) (hz:lg l k=0) (hA:A=aB l*V+R) (hR:R'=R+pb k*(-(g*V))):A=aB (l.set k ⟨g⟩)*V+R':=by
 rw [kN l k _ hk,hz,hA,hR,Int.sub_zero,Int.add_mul,Int.mul_assoc,Int.mul_neg]
 show _=aB l*V+pb k*(g*V)+(R + -(pb k*(g*V)))
 omega
section
variable {P:Program} {ops:Array Oper} {rest:List Oper} {B:Bs} {e:Env} {D:List Deferred} {H:Hp} {G:Imm} {K:Act→World→Prop}
 {ty:TypeId} {pos:String} {after:Array Edge} {d:Nat}
theorem aPO {p w q:List U32} {m:Int} (hm:0≤m∧m<w.length):(p++(w++q))[((p.length:Int)+m).toNat]?.getD default=w[m.toNat]?.getD default:=by
 have h1:((p.length:Int)+m).toNat=p.length+m.toNat:=by omega
 rw [h1,List.getElem?_append_right (by omega),Nat.add_sub_cancel_left,List.getElem?_append_left (by omega)]
theorem aPP {p w q:List U32} {m:Int} (hm:0≤m∧m<w.length) (z:U32):(p++(w++q)).set ((p.length:Int)+m).toNat z=p++(w.set m.toNat z++q):=by
 have h1:((p.length:Int)+m).toNat=p.length+m.toNat:=by omega
 rw [h1,List.set_append_right _ _ (by omega),Nat.add_sub_cancel_left,List.set_append_left _ _ (by omega)]
theorem aFM {k:Nat} {m:Int} (hm:0≤m):k+m.toNat*1=0+((k:Int)+m).toNat*Cells.sz U32+0:=by
 show k+m.toNat*1=0+((k:Int)+m).toNat*1+0
 omega
theorem eN {T:TypeId} {x:Operand} {b:Nat} {E:TypeId} {p w q:List U32} {junk:List Value} {m:Int} (t:Nat) (h1:eC P T=true) (hx:e.ev x=some (.pointer (some ⟨b,p.length+m.toNat*1,none⟩)))
 (ht:H.get t=some (some b,Row E (p++(w++q)) junk)) (hm:0≤m∧m<w.length):Qy P (.load T x) ty e H G (.int .u32 (w[m.toNat]?.getD default).v):=by
 rw [aFM hm.1] at hx
 refine aAO (m:=(p.length:Int)+m) t 0 h1 hx ht ⟨by omega,by rw [List.length_append,List.length_append];omega⟩ rfl ?_
 rw [aPO hm];rfl
theorem jZ {T:TypeId} {x y:Operand} {b:Nat} {E:TypeId} {p w q:List U32} {junk:List Value} {m n:Int} (t:Nat) (hs:(P.info? T).map (·.size)=some 1)
 (hx:e.ev x=some (.pointer (some ⟨b,p.length+m.toNat*1,none⟩))) (hy:e.ev y=some (.int .u32 n)) (ht:H.get t=some (some b,Row E (p++(w++q)) junk)) (hm:0≤m∧m<w.length)
 (h:Wl P ops rest B ⟨e,D,(t,some b,Row E (p++(w.set m.toNat ⟨n⟩++q)) junk) :: H,G⟩ K):Wl P ops (⟨none,.store T x y,ty,pos,after,none⟩ :: rest) B ⟨e,D,H,G⟩ K:=by
 rw [aFM hm.1] at hx
 refine aFH (m:=(p.length:Int)+m) (z:=(⟨n⟩:U32)) t hs hx hy rfl ht ⟨by omega,by rw [List.length_append,List.length_append];omega⟩ ?_
 rw [aPP hm];exact h
theorem aLH {T:TypeId} {x hi mx:Operand} {a:Option Addr} {n c E sz:Nat} {k k':IntKind} {m m':Int} (hT:aS P T E sz) (hx:e.ev x=some (.slice a n c)) (hh:e.ev hi=some (.int k m)) (hh':e.ev mx=some (.int k' m')) (h0:0≤m) (h1:m≤m') (h2:m'≤c) :
 Qy P (.slice T x none (some hi) (some mx)) ty e H G (.slice (subA a m'.toNat 0 sz) m.toNat m'.toNat):=fun ac w _ _ _ _ hk=>by
 have hr:=run_sizeOf (P:=P) w hT.2
 have hu:P.underlying T=some (.slice (P.elem T)):=by simp [Program.elem,hT.1]
 have he:P.elem T=E:=by simp [Program.elem,hT.1]
 have:=run_slice_hm (P:=P) (w:=w) T a n c hu k k' m m' h0 h1 h2
 simp only [execOp,hk.eval hx,Option.map_some,Option.map_none,hk.eval hh,hk.eval hh',Sem.run_bind,run_sliceAt_slice (P:=P) (w:=w) T _ _ _ _ hu,this,he,hr,Result.andThen_ok,Sem.run_pure,sliced,subA,Nat.sub_zero]
end
section
variable {P:Program} {ops:Array Oper} {rest:List Oper} {B:Bs} {e:Env} {D:List Deferred} {H:Hp} {G:Imm} {K:Act→World→Prop}
 {ty:TypeId} {pos:String} {after:Array Edge} {d:Nat} {α:Type} [Cells α]
theorem aBB {w:World} (hw:HoldH H G w) {T T2 E:Nat} (hT:aS P T E (Cells.sz α)) {t b:Nat} {ad:Option Addr} {c c2:Nat} {xs ys:List α} {junk:List Value}
 (ht:H.get t=some (some b,Row E xs junk)) (hsrc:Src H G ad ys) (hle:ys.length≤xs.length) :
 ∃ w',(Builtin.copy_ #[T,T2] ty #[.slice (some ⟨b,0,none⟩) xs.length c,.slice ad ys.length c2]).run P w=.ok (.int .i64 (ys.length:Int)) w'∧Upd (·=b) w w'∧w'.heap[b]?=some (Row E (ys++xs.drop ys.length) junk):=by
 have hb:=hw.own t b _ ht
 have hmin:Nat.min ys.length xs.length=ys.length:=Nat.min_eq_left hle
 cases hq:P.info? E with
 | none=>have:=hT.2;simp [hq] at this
 | some i =>
   have hi:i.size=Cells.sz α:=by have:=hT.2;simpa [hq] using this
   rcases hsrc w hw with ⟨rfl,rfl⟩ | ⟨src,rfl,hsr⟩
   · refine ⟨w,?_,Upd.refl _ _,by simpa using hb⟩
     have hm0:Nat.min (0:Nat) xs.length=0:=Nat.zero_min _
     simp [Builtin.copy_,run_underlying hT.1,Builtin.lenOf,Builtin.firstCells,sizeOf,typeInfo,hq,storeCells,hm0,goInt]
   have hl:=run_loadCells_list (P:=P) w src (bH ys) hsr
   have hfy:(bH ys).length=ys.length*Cells.sz α:=aV ys
   have hfx:(bH xs).length=xs.length*Cells.sz α:=aV xs
   have hmul:=Nat.mul_le_mul_right (Cells.sz α) hle
   have hfit:0+0+(bH ys).length≤((bH xs++junk).toArray).size:=by
    rw [List.size_toArray,List.length_append];omega
   have hst:=run_storeCells_at P b 0 E (bH ys) 0 (bH xs++junk).toArray w hb hfit (fun v hv=>List.all_eq_true.1 (aAN ys) v hv)
   refine ⟨_,?_,eE w b (((bH xs++junk).toArray.toList.take (0+0)++bH ys++(bH xs++junk).toArray.toList.drop (0+0+(bH ys).length)).toArray),?_⟩
   · rw [hfy] at hl
     simp [Builtin.copy_,run_underlying hT.1,Builtin.lenOf,Builtin.firstCells,sizeOf,typeInfo,hq,hi,hmin,hl,hst,goInt]
   rw [setRow_heap w b _ _ E _ hb]
   have hsplit:bH xs=bH (xs.take ys.length)++bH (xs.drop ys.length):=by rw [←dZ,List.take_append_drop]
   have htl:(bH (xs.take ys.length)).length=(bH ys).length:=by rw [aV,aV,List.length_take,Nat.min_eq_left hle]
   unfold Row
   rw [dZ]
   simp only [Nat.add_zero,Nat.zero_add,List.take_zero,List.nil_append]
   rw [hsplit,List.append_assoc,←htl,List.drop_left,List.append_assoc]
theorem uK {x y:Operand} {T T2 E b:Nat} {ad:Option Addr} {c c2:Nat} {xs ys:List α} {junk:List Value} (t:Nat) (hn:Nat.ble (d+1) B.n=true) (hT:aS P T E (Cells.sz α))
 (hx:e.ev x=some (.slice (some ⟨b,0,none⟩) xs.length c)) (hy:e.ev y=some (.slice ad ys.length c2)) (ht:H.get t=some (some b,Row E xs junk)) (hsrc:Src H G ad ys) (hle:ys.length≤xs.length)
 (h:Wl P ops rest B ⟨(d,.int .i64 (ys.length:Int)) :: e,D,(t,some b,Row E (ys++xs.drop ys.length) junk) :: H,G⟩ K) :
 Wl P ops (⟨some d,.call { callee:=.builtin .copy,args:=#[x,y],argTypes:=#[T,T2] },ty,pos,after,none⟩ :: rest) B ⟨e,D,H,G⟩ K:=by
 refine kK (v:=.int .i64 (ys.length:Int)) (x:=.value (.int .i64 (ys.length:Int))) ht (.inr ⟨rfl,d,rfl,hn⟩) (fun a w hh=>?_) h
 obtain ⟨w',hrun,hu,hb⟩:=aBB (c:=c) (c2:=c2) (T2:=T2) (ty:=ty) hh.mem hT ht hsrc hle
 refine ⟨w',?_,hu,hb⟩
 simp only [execOp,resolve,invoke,builtin,Sem.run_bind,Sem.run_pure,Result.andThen_ok,List.map_toArray,List.map_cons,List.map_nil,hh.eval hx,hh.eval hy,hrun]
end
theorem kO {P:Program} {e:Env} {H:Hp} {G:Imm} {ty t t':TypeId} {x y:Operand} {m n:Int} (hx:e.ev x=some (.int .u64 m)) (hy:e.ev y=some (.int .u64 n)) (h0:m<n∧0≤m∧n≤18446744073709551615):Qy P (.binOp .sub t x y t') ty e H G (.int .u64 (m - n+18446744073709551616)):=by
 have h:=pA (P:=P) (H:=H) (G:=G) (ty:=ty) (t:=t) (t':=t') hx hy
 have e1:IntKind.u64.wrap (m - n)=m - n+18446744073709551616:=by rw [IntKind.wrap_u64];omega
 rw [e1] at h;exact h
theorem uM {P:Program} {f:FuncId} {args:List Value} {G:Imm} {u:Value} (h:∀ w,Calls P f args.toArray w fun e w'=>e=.returned u∧w'=w):Does P f args G [] (fun v G' Ho=>v=u∧G'=G∧Ho=[]):=
 fun w hw=>(h w).mono fun e w' he=>by
  obtain ⟨rfl,rfl⟩:=he
  exact ⟨u,G,[],rfl,hw,Imm.le_refl G,Upd.refl _ _,fun b h1 h2=>absurd h2 h1,fun t b o ht=>by simp [Hp.get] at ht,rfl,rfl,rfl⟩
end Go.Sl
namespace Go.Proofs.YtfdcckcadfhpeaaGreatDoor
open Go Go.Sl
def bL (x y:Int):Int:=if x<y then -1 else if y<x then 1 else 0
theorem iC {x y:Int} (h:x<y):bL x y=-1:=if_pos h
theorem iU {x y:Int} (h:y<x):bL x y=1:=by unfold bL;rw [if_neg (by omega),if_pos h]
theorem nK {x y:Int} (h:x=y):bL x y=0:=by unfold bL;rw [if_neg (by omega),if_neg (by omega)]
theorem lO {x y u v:Int} (h1:x<y↔u<v) (h2:y<x↔v<u):bL x y=bL u v:=by unfold bL;simp only [h1,h2]
theorem fA {l m:List U32} (he:m=l.take m.length) (ht:Trim l m.length):aB m=aB l:=by rw [he];exact ht.val
theorem mR {l m:List U32} (he:m=l.take m.length) (ht:Trim l m.length):Top m:=by rw [he];exact ht.top
theorem eS {l m:List U32} (he:m=l.take m.length) (hd:Lims l):Lims m:=by rw [he];exact hd.take _
section
attribute [local irreducible] aB pb bL
theorem sR (G:Imm) (a:Option Addr) (c:Nat) (l:List U32) (hl:Arr G a l) (hb:l.length≤1099511627776) (hc:l.length≤c) :
 Does Tryz.prog 181 [.slice a l.length c] G [] (fun v G' Ho=>∃ (b:Option Addr) (m:List U32),v=.slice b m.length m.length∧Arr G b m∧m=l.take m.length∧Trim l m.length∧m.length≤l.length∧G'=G∧Ho=[]):=by
 refine D0 Tryz.func181 Tryz.ntmps181 fun w=>?_
 refine Wc.gc 14 [] ?_
 refine Wc.lp (ι:=Nat) (fun n=>([(3,.int .i64 (n:Int)),(2,.slice none 0 0),(0,.slice a (List.length l) c)],[])) (fun n=>n≤l.length∧(∀ j,n≤j→j<l.length→(l[j]?.getD default).v=0)) (fun n=>n) (l.length) (⟨Nat.le_refl _,fun j h1 h2=>absurd h2 (by omega)⟩) fun n=>fun hk=>?_
 obtain ⟨hn,hz⟩:=hk
 have done:(n=0∨(l[n - 1]?.getD default).v≠0)→∃ (b:Option Addr) (m:List U32),Value.slice (subA a n 0 1) n n=.slice b m.length m.length∧Arr G b m∧m=l.take m.length∧Trim l m.length∧m.length≤l.length∧G=G∧([]:Hp)=[]:=fun ht=>by
  have e:(l.take n).length=n:=by rw [List.length_take,Nat.min_eq_left hn]
  refine ⟨subA a n 0 1,l.take n,by rw [e],mQ hl n,by rw [e],?_,by rw [e];exact hn,rfl,rfl⟩
  rw [e];exact ⟨hn,hz,ht⟩
 refine Wc.gl 6 [] ?_
 apply aM 7 8 15 rfl
 intro hg1
 refine aA 7 [] ?_
 refine Wl.at (α:=U32) T.sl123 ?_
 refine aA 1 [] ?_
 refine bM 0 T.one215 ?_
 refine aA 3 [] ?_
 exact Wl.b 7 0
 intro hg1
 refine aA 7 [] ?_
 exact Wl.b 7 0
 refine Wl.gc 2 [] ?_
 refine Wc.i (fun hc1=>?_) fun hc1=>?_
 refine Wc.ga 9 [] ?_
 rotate_left
 refine Wc.gl 10 [] ?_
 refine Wl.p (aLH T.sl123 rfl rfl rfl (by omega) (by omega) (by omega)) ?_
 refine Wl.ga 4 [] ?_
 refine Ar.e1 ?_
 rotate_left
 · refine Ar.re 3 rfl (show _=Value.int .i64 ((n - 1:Nat):Int) by congr 1;omega) ?_
   refine aH (n - 1) ?_ ?_
   · refine ⟨by omega,fun j h1 h2=>?_⟩
     rcases Nat.lt_or_ge j n with h3 | h3
     · have e:j=(((n:Nat):Int) - 1).toNat:=by omega
       rw [e];exact hc1.2
     exact hz j h3 h2
   omega
 refine done ?_
 rcases Nat.eq_zero_or_pos n with h | h
 · exact .inl h
 refine .inr fun h2=>hc1 ⟨by omega,?_⟩
 have e:(((n:Nat):Int) - 1).toNat=n - 1:=by omega
 rw [e];exact h2
theorem aBC (G:Imm) (a b:Option Addr) (ca cb:Nat) (la lb:List U32) (ha:Arr G a la) (hb:Arr G b lb) (da:Lims la) (db:Lims lb) (h1:la.length≤1073741824) (h2:lb.length≤1073741824) (h3:la.length≤ca) (h4:lb.length≤cb) :
 Does Tryz.prog 182 [.slice a la.length ca,.slice b lb.length cb] G [] (fun v G' Ho=>v=.int .i64 (bL (aB la) (aB lb))∧G'=G∧Ho=[]):=by
 refine D0 Tryz.func182 Tryz.ntmps182 fun w=>?_
 refine Wc.gl 8 [] ?_
 refine Wl.k 0 rfl (sR _ _ _ _ ‹_› (by omega) (by first | assumption | omega)) fun v1 G1 Ho1 hle1 hp=>?_
 obtain ⟨ta1,tm1,rfl,hta1,hte1,htr1,htl1,rfl,rfl⟩:=hp
 refine aA 1 [] ?_
 refine Wl.k 0 rfl (sR _ _ _ _ ‹_› (by omega) (by first | assumption | omega)) fun v2 G2 Ho2 hle2 hp=>?_
 obtain ⟨ta2,tm2,rfl,hta2,hte2,htr2,htl2,rfl,rfl⟩:=hp
 refine Wl.gc 16 [] ?_
 refine Wc.i (fun hc1=>?_) fun hc1=>?_
 refine Wc.ga 8 [] ?_
 refine Ar.e1 ?_
 rotate_left
 refine Wc.gc 10 [] ?_
 refine Wc.i (fun hc2=>?_) fun hc2=>?_
 refine Wc.ga 8 [] ?_
 refine Ar.e1 ?_
 rotate_left
 refine Wc.gc 13 [] ?_
 rotate_left
 · rw [←fA hte1 htr1,←fA hte2 htr2]
   exact ⟨by rw [iC (iI (eS hte1 da) (eS hte2 db) (mR hte2 htr2) (by omega))],rfl,rfl⟩
 · rw [←fA hte1 htr1,←fA hte2 htr2]
   exact ⟨by rw [iU (iI (eS hte2 db) (eS hte1 da) (mR hte1 htr1) (by omega))],rfl,rfl⟩
 rw [←fA hte1 htr1,←fA hte2 htr2]
 have dma:=eS hte1 da
 have dmb:=eS hte2 db
 have l1:=htr1.1
 have l2:=htr2.1
 have hn:tm1.length=tm2.length:=by omega
 refine Wc.lp (ι:=Nat) (fun k=>([(5,.int .i64 ((k:Int) - 1)),(1,.slice ta2 (List.length tm2) (List.length tm2)),(0,.slice ta1 (List.length tm1) (List.length tm1))],[])) (fun k=>k≤tm1.length∧∀ j,k≤j→j<tm1.length→lg tm1 j=lg tm2 j) (fun k=>k) (tm1.length) (⟨Nat.le_refl _,fun j h1 h2=>absurd h2 (by omega)⟩) fun k=>fun hk=>?_
 obtain ⟨hk1,hz⟩:=hk
 rcases Nat.eq_zero_or_pos k with rfl | hpos
 · refine Wc.ga 19 [0] ?_
   refine Ar.e1 ?_
   have e:tm1=tm2:=by
    have:=uJ (k:=0) hn hz
    simpa using this
   exact ⟨by rw [e,nK rfl],rfl,rfl⟩
 have e1:(tm1[(((k:Nat):Int) - 1).toNat]?.getD default).v=lg tm1 (k - 1):=by
  unfold lg;rw [show (((k:Nat):Int) - 1).toNat=((k - 1:Nat):Int).toNat by omega]
 have e2:(tm2[(((k:Nat):Int) - 1).toNat]?.getD default).v=lg tm2 (k - 1):=by
  unfold lg;rw [show (((k:Nat):Int) - 1).toNat=((k - 1:Nat):Int).toNat by omega]
 have hz':∀ j,(k - 1)+1≤j→j<tm1.length→lg tm1 j=lg tm2 j:=fun j h1 h2=>hz j (by omega) h2
 refine Wc.gc 14 [1] ?_
 refine aN [] [] T.mixed [[0],[1]] ?_
 refine Gm.at (α:=U32) 2 T.sl123 ?_
 refine gO 3 [] 0 T.one215 ?_
 refine Gm.r [[4],[5]] ?_
 refine Gm.at (α:=U32) 6 T.sl123 ?_
 refine gO 7 [] 0 T.one215 ?_
 refine Gm.r [[8],[9]] ?_
 refine Gm.fin ?_
 refine Ar.next ?_
 refine Wc.i (fun hc3=>?_) fun hc3=>?_
 refine Wc.ga 12 [] ?_
 refine Ar.e1 ?_
 rotate_left
 refine Wc.seq ?_
 refine aN [] [] T.mixed [[0],[1]] ?_
 refine Gm.at (α:=U32) 2 T.sl123 ?_
 refine gO 3 [] 0 T.one215 ?_
 refine Gm.r [[4],[5]] ?_
 refine Gm.at (α:=U32) 6 T.sl123 ?_
 refine gO 7 [] 0 T.one215 ?_
 refine Gm.r [[8],[9]] ?_
 refine Gm.fin ?_
 refine Ar.next ?_
 refine Wc.i (fun hc4=>?_) fun hc4=>?_
 refine Wc.ga 12 [] ?_
 refine Ar.e1 ?_
 rotate_left
 refine Wc.ga 9 [] ?_
 rotate_left
 · exact ⟨by rw [iC (aBA hn (by omega) dma dmb hz' (by omega))],rfl,rfl⟩
 · exact ⟨by rw [iU (aBA hn.symm (by omega) dmb dma (fun j h1 h2=>(hz' j h1 (by omega)).symm) (by omega))],rfl,rfl⟩
 refine Ar.re 5 rfl (show _=Value.int .i64 (((k - 1:Nat):Int) - 1) by congr 1;omega) ?_
 refine aH (k - 1) ?_ ?_
 · refine ⟨by omega,fun j h1 h2=>?_⟩
   rcases Nat.lt_or_ge j k with h3 | h3
   · have e:j=k - 1:=by omega
     rw [e];omega
   exact hz j h3 h2
 omega
theorem c185 (G:Imm) (a:Option Addr) (c:Nat) (l:List U32) (hl:Arr G a l) (hb:l.length≤1073741824) (hc:l.length≤c) :
 Does Tryz.prog 185 [.slice a l.length c] G [] (fun v G' Ho=>∃ (b:Option Addr) (m:List U32),v=.slice b m.length m.length∧Arr G' b m∧m=l.take m.length∧Trim l m.length∧m.length≤l.length∧Ho=[]):=by
 refine D0 Tryz.func185 Tryz.ntmps185 fun w=>?_
 refine Wc.gl 8 [] ?_
 refine Wl.k 0 rfl (sR _ _ _ _ ‹_› (by omega) (by first | assumption | omega)) fun v1 G1 Ho1 hle1 hp=>?_
 obtain ⟨ta1,tm1,rfl,hta1,hte1,htr1,htl1,rfl,rfl⟩:=hp
 refine Wl.gl 7 [] ?_
 refine Wl.make (α:=U32) 0 rfl T.sl123 T.el215 rfl rfl (by omega) (by omega) fun b1=>?_
 refine Wl.gl 7 [] ?_
 refine uK (α:=U32) 0 rfl T.sl123 rfl rfl rfl (nG ‹_›) (by first | omega | (simp only [List.length_append,List.length_cons,List.length_nil,List.length_replicate];omega)) ?_
 refine Wl.ga 9 [] ?_
 have e1:(List.replicate ((tm1.length:Nat):Int).toNat (default:U32)).length=tm1.length:=by rw [List.length_replicate,Int.toNat_natCast]
 refine Ar.reH 0 (Row 215 tm1 []) rfl (by rw [List.drop_eq_nil_of_le (by rw [e1];exact Nat.le_refl _),List.append_nil]) ?_
 refine Ar.re 2 rfl (show _=Value.slice (some ⟨b1,0,none⟩) tm1.length tm1.length by rw [e1]) ?_
 refine Ar.freezeRow 0 rfl (dV (xs:=tm1) (by simp only [maxLen];omega)) fun G9 hle9 hA=>?_
 refine Ar.e1 ?_
 exact ⟨_,tm1,rfl,hA,hte1,htr1,htl1,rfl⟩
end
def Nat32 (G:Imm) (v:Value) (z:Int) (n:Nat):Prop:=∃ (b:Option Addr) (m:List U32),v=.slice b m.length m.length∧Arr G b m∧Lims m∧Top m∧aB m=z∧m.length≤n
theorem Nat32.of {G:Imm} {b:Option Addr} {l m:List U32} {z:Int} {n:Nat} (h:Arr G b m) (he:m=l.take m.length) (ht:Trim l m.length) (hd:Lims l) (hz:aB l=z) (hn:m.length≤n):Nat32 G (.slice b m.length m.length) z n:=
 ⟨b,m,rfl,h,eS he hd,mR he ht,(fA he ht).trans hz,hn⟩
section
attribute [local irreducible] aB pb bL
theorem c183 (G:Imm) (a b:Option Addr) (ca cb:Nat) (la lb:List U32) (ha:Arr G a la) (hb:Arr G b lb) (da:Lims la) (db:Lims lb) (h1:la.length≤1073741824) (h2:lb.length≤1073741824) :
 Does Tryz.prog 183 [.slice a la.length ca,.slice b lb.length cb] G [] (fun v G' Ho=>Nat32 G' v (aB la+aB lb) (max la.length lb.length+1)∧Ho=[]):=by
 refine D0 Tryz.func183 Tryz.ntmps183 fun w=>?_
 refine Wc.gc 5 [] ?_
 refine eY (ι:=Option Addr×Nat×List U32×(Option Addr×Nat×List U32)) (fun (xa,ka,l1,(xb,kb,l2))=>([(0,.slice xa l1.length ka),(1,.slice xb l2.length kb),(4,.slice none 0 0)],[])) (fun (xa,ka,l1,(xb,kb,l2))=>Arr G xa l1∧Arr G xb l2∧Lims l1∧Lims l2∧l2.length≤l1.length∧l1.length≤max la.length lb.length∧aB l1+aB l2=aB la+aB lb) ?_ fun ⟨xa,ka,l1,(xb,kb,l2)⟩=>fun (hk:Arr G xa l1∧Arr G xb l2∧Lims l1∧Lims l2∧l2.length≤l1.length∧l1.length≤max la.length lb.length∧aB l1+aB l2=aB la+aB lb)=>?_
 · by_cases hlt:la.length<lb.length
   · refine Wc.ga 16 [1] ?_
     refine Ar.mt ((b,cb,lb,(a,ca,la))) ?_
     exact ⟨hb,ha,db,da,by omega,by omega,Int.add_comm _ _⟩
   refine Wc.ga 11 [0] ?_
   refine Ar.mt ((a,ca,la,(b,cb,lb))) ?_
   exact ⟨ha,hb,da,db,by omega,by omega,rfl⟩
 obtain ⟨ha1,hb1,d1,d2,hl21,hl1,hsum⟩:=hk
 clear ha hb
 refine Wc.gl 5 [] ?_
 refine Wl.make (α:=U32) 0 rfl T.sl123 T.el215 rfl rfl (by omega) (by omega) fun b1=>?_
 refine Wl.gc 17 [] ?_
 obtain ⟨N,hN⟩:∃ N,N=l1.length+1:=⟨_,rfl⟩
 have hM:((l1.length:Int)+1).toNat=N:=by omega
 rw [hM]
 have hown:∀ r:List U32,r.length=N→OwnA (some ⟨b1,0,none⟩) N r []:=fun r hr=>.inr ⟨b1,rfl,by rw [hr];rfl,by omega,by simp only [maxLen];omega⟩
 refine Wc.re 5 rfl (show _=Value.slice (some ⟨b1,0,none⟩) (List.replicate N (default:U32)).length N by rw [List.length_replicate]) ?_
 refine Wc.lp (ι:=Nat×Int×List U32) (fun (i,cy,r)=>([(22,.int .i64 (i:Int)),(6,.int .u64 cy),(5,.slice (some ⟨b1,0,none⟩) r.length N),(21,.int .i64 (l1.length:Int)),(20,.slice xa (List.length l1) ka),(0,.slice xa (List.length l1) ka),(1,.slice xb (List.length l2) kb),(4,.slice none 0 0)],[(0,some b1,Row 215 r [])])) (fun (i,cy,r)=>i≤l1.length∧r.length=N∧Lims r∧0≤cy∧cy≤1∧aB (l1.take i)+aB (l2.take i)=aB (r.take i)+pb i*cy) (fun (i,cy,r)=>l1.length - i) ((0,0,List.replicate N (default:U32))) (⟨Nat.zero_le _,List.length_replicate,fR N,by decide,by decide,by rw [List.take_zero,List.take_zero,List.take_zero,Int.mul_zero,Int.add_zero,bW];rfl⟩) fun ⟨i,cy,r⟩=>fun hk=>?_
 obtain ⟨hi,hrN,hdr,hc0,hc1,hv⟩:=hk
 have hor:=hown r hrN
 rcases Nat.lt_or_ge i l1.length with hia | hia
 · have r1:0≤(l1[((i:Nat):Int).toNat]?.getD default).v∧(l1[((i:Nat):Int).toNat]?.getD default).v<4294967296:=jY d1 hia
   rcases Nat.lt_or_ge i l2.length with hib | hib
   · have r2:0≤(l2[((i:Nat):Int).toNat]?.getD default).v∧(l2[((i:Nat):Int).toNat]?.getD default).v<4294967296:=jY d2 hib
     refine Wc.gl 14 [1] ?_
     refine Wl.at (α:=U32) T.sl123 ?_
     refine bM 0 T.one215 ?_
     refine Wl.gl 8 [] ?_
     refine Wl.p (aI rfl T.u214 rfl (by omega)) ?_
     refine Wl.p (bV rfl rfl (by omega)) ?_
     refine Wl.gl 17 [1] ?_
     refine Wl.at (α:=U32) T.sl123 ?_
     refine bM 0 T.one215 ?_
     refine Wl.p (aI rfl T.u214 rfl (by omega)) ?_
     refine Wl.p (bV rfl rfl (by omega)) ?_
     refine Wl.gl 8 [] ?_
     refine Wl.p (cF rfl T.u215 rfl) ?_
     refine bR (α:=U32) T.sl123 ?_
     refine bG (z:=_) 0 T.size215 rfl rfl rfl ‹_› (by omega) rfl fun ho1=>?_
     refine Wl.gl 4 [] ?_
     refine Wl.p (bI rfl rfl (by omega)) ?_
     refine Wl.ga 8 [] ?_
     refine Ar.reH 0 (Row 215 (r.set i (⟨(cy+(l1[((i:Nat):Int).toNat]?.getD default).v+(l2[((i:Nat):Int).toNat]?.getD default).v) % 4294967296⟩:U32)) []) rfl (by rw [Int.toNat_natCast]) ?_
     refine Ar.re 5 rfl (show _=Value.slice (some ⟨b1,0,none⟩) (r.set i (⟨(cy+(l1[((i:Nat):Int).toNat]?.getD default).v+(l2[((i:Nat):Int).toNat]?.getD default).v) % 4294967296⟩:U32)).length N by rw [List.length_set]) ?_
     refine aH ((i+1,(cy+(l1[((i:Nat):Int).toNat]?.getD default).v+(l2[((i:Nat):Int).toNat]?.getD default).v) / 4294967296,r.set i (⟨(cy+(l1[((i:Nat):Int).toNat]?.getD default).v+(l2[((i:Nat):Int).toNat]?.getD default).v) % 4294967296⟩:U32))) ?_ ?_
     · exact ⟨by omega,by rw [List.length_set];exact hrN,bT hdr _ (nW _),by omega,by omega,pQ (by omega) hv rfl⟩
     show l1.length - (i+1)<l1.length - i
     omega
   have z:=mP hib
   refine Wc.gl 14 [1] ?_
   refine Wl.at (α:=U32) T.sl123 ?_
   refine bM 0 T.one215 ?_
   refine Wl.gl 8 [] ?_
   refine Wl.p (aI rfl T.u214 rfl (by omega)) ?_
   refine Wl.p (bV rfl rfl (by omega)) ?_
   refine Wl.gl 20 [0] ?_
   refine Wl.p (cF rfl T.u215 rfl) ?_
   refine bR (α:=U32) T.sl123 ?_
   refine bG (z:=_) 0 T.size215 rfl rfl rfl ‹_› (by omega) rfl fun ho1=>?_
   refine Wl.gl 4 [] ?_
   refine Wl.p (bI rfl rfl (by omega)) ?_
   refine Wl.ga 8 [] ?_
   refine Ar.reH 0 (Row 215 (r.set i (⟨(cy+(l1[((i:Nat):Int).toNat]?.getD default).v) % 4294967296⟩:U32)) []) rfl (by rw [Int.toNat_natCast]) ?_
   refine Ar.re 5 rfl (show _=Value.slice (some ⟨b1,0,none⟩) (r.set i (⟨(cy+(l1[((i:Nat):Int).toNat]?.getD default).v) % 4294967296⟩:U32)).length N by rw [List.length_set]) ?_
   refine aH ((i+1,(cy+(l1[((i:Nat):Int).toNat]?.getD default).v) / 4294967296,r.set i (⟨(cy+(l1[((i:Nat):Int).toNat]?.getD default).v) % 4294967296⟩:U32))) ?_ ?_
   · exact ⟨by omega,by rw [List.length_set];exact hrN,bT hdr _ (nW _),by omega,by omega,pQ (by omega) hv (by rw [z,Int.add_zero];rfl)⟩
   show l1.length - (i+1)<l1.length - i
   omega
 have hii:i=l1.length:=by omega
 subst hii
 refine Wc.gl 18 [0] ?_
 refine Wl.p (bX rfl T.u215 rfl (by omega)) ?_
 refine bR (α:=U32) T.sl123 ?_
 refine bG (z:=_) 0 T.size215 rfl rfl rfl ‹_› (by omega) rfl fun ho1=>?_
 refine Wl.gl 5 [] ?_
 have hd2:=bT hdr l1.length (s:=cy) (by omega)
 have hlen:(r.set l1.length (⟨cy⟩:U32)).length=N:=by rw [List.length_set];exact hrN
 have hval:aB (r.set l1.length (⟨cy⟩:U32))=aB la+aB lb:=by
  rw [aQ (Nat.le_refl _),aQ hl21] at hv
  rw [←hsum,hv]
  have h3:=bY (r.set l1.length (⟨cy⟩:U32)) l1.length
  rw [aQ (by omega),List.take_set_of_le (Nat.le_refl _),oH (by omega)] at h3
  exact h3
 refine Wl.reH 0 (Row 215 (r.set l1.length (⟨cy⟩:U32)) []) rfl (by rw [Int.toNat_natCast]) ?_
 refine Wl.re 56 rfl (show _=Value.slice (some ⟨b1,0,none⟩) (r.set l1.length (⟨cy⟩:U32)).length N by rw [List.length_set]) ?_
 refine Wl.freezeRow 0 rfl (hown _ hlen) fun G9 hle9 hA=>?_
 refine Wl.k 1 rfl (sR _ _ _ _ ‹_› (by omega) (by first | assumption | omega)) fun v1 G1 Ho1 hle1 hp=>?_
 obtain ⟨ta1,tm1,rfl,hta1,hte1,htr1,htl1,rfl,rfl⟩:=hp
 refine Wl.ga 4 [] ?_
 refine Ar.e1 ?_
 exact ⟨Nat32.of hta1 hte1 htr1 hd2 hval (by omega),rfl⟩
end
section
attribute [local irreducible] aB pb bL
theorem c184 (G:Imm) (a b:Option Addr) (ca cb:Nat) (la lb:List U32) (ha:Arr G a la) (hb:Arr G b lb) (da:Lims la) (db:Lims lb) (h1:la.length≤1073741824) (h2:lb.length≤la.length) (h3:la.length≤ca) (h4:lb.length≤cb) (hle:aB lb≤aB la) :
 Does Tryz.prog 184 [.slice a la.length ca,.slice b lb.length cb] G [] (fun v G' Ho=>∃ r,v=.tuple #[r,.int .i64 0]∧Nat32 G' r (aB la - aB lb) la.length∧Ho=[]):=by
 have hcmp:0≤bL (aB la) (aB lb):=by
  rcases Int.lt_or_eq_of_le hle with h | h
  · rw [iU h];decide
  rw [nK h.symm];decide
 refine D0 Tryz.func184 Tryz.ntmps184 fun w=>?_
 refine Wc.gl 11 [] ?_
 refine Wl.k0 rfl (aBC _ _ _ _ _ _ _ ‹_› ‹_› ‹_› ‹_› (by omega) (by omega) (by omega) (by omega)) ?_
 refine Wl.gl 10 [0] ?_
 refine Wl.make (α:=U32) 0 rfl T.sl123 T.el215 rfl rfl (by omega) (by omega) fun b1=>?_
 refine Wl.gc 17 [] ?_
 obtain ⟨N,hN⟩:∃ N,N=la.length:=⟨_,rfl⟩
 have hM:(la.length:Int).toNat=N:=by omega
 rw [hM]
 have hown:∀ r:List U32,r.length=N→OwnA (some ⟨b1,0,none⟩) N r []:=fun r hr=>.inr ⟨b1,rfl,by rw [hr];rfl,by omega,by simp only [maxLen];omega⟩
 refine Wc.re 6 rfl (show _=Value.slice (some ⟨b1,0,none⟩) (List.replicate N (default:U32)).length N by rw [List.length_replicate]) ?_
 refine Wc.lp (ι:=Nat×Int×List U32) (fun (i,cy,r)=>([(21,.int .i64 (i:Int)),(7,.int .u64 cy),(6,.slice (some ⟨b1,0,none⟩) r.length N),(20,.int .i64 (la.length:Int)),(19,.slice a (List.length la) ca),(5,.int .i64 0),(4,.slice none 0 0),(1,.slice b (List.length lb) cb)],[(0,some b1,Row 215 r [])])) (fun (i,cy,r)=>i≤la.length∧r.length=N∧Lims r∧0≤cy∧cy≤1∧aB (la.take i) - aB (lb.take i)=aB (r.take i) - pb i*cy) (fun (i,cy,r)=>la.length - i) ((0,0,List.replicate N (default:U32))) (⟨Nat.zero_le _,List.length_replicate,fR N,by decide,by decide,by rw [List.take_zero,List.take_zero,List.take_zero,Int.mul_zero,Int.sub_zero,bW];rfl⟩) fun ⟨i,cy,r⟩=>fun hk=>?_
 obtain ⟨hi,hrN,hdr,hc0,hc1,hv⟩:=hk
 have hor:=hown r hrN
 rcases Nat.lt_or_ge i la.length with hia | hia
 · have r1:0≤(la[((i:Nat):Int).toNat]?.getD default).v∧(la[((i:Nat):Int).toNat]?.getD default).v<4294967296:=jY da hia
   have e1:(la[((i:Nat):Int).toNat]?.getD default).v=lg la i:=rfl
   rcases Nat.lt_or_ge i lb.length with hib | hib
   · have r2:0≤(lb[((i:Nat):Int).toNat]?.getD default).v∧(lb[((i:Nat):Int).toNat]?.getD default).v<4294967296:=jY db hib
     have e2:(lb[((i:Nat):Int).toNat]?.getD default).v=lg lb i:=rfl
     by_cases hlt:(la[((i:Nat):Int).toNat]?.getD default).v<cy+(lb[((i:Nat):Int).toNat]?.getD default).v
     · refine Wc.gl 14 [1] ?_
       refine Wl.at (α:=U32) T.sl123 ?_
       refine bM 0 T.one215 ?_
       refine Wl.gl 24 [1] ?_
       refine Wl.at (α:=U32) T.sl123 ?_
       refine bM 0 T.one215 ?_
       refine Wl.p (aI rfl T.u214 rfl (by omega)) ?_
       refine Wl.p (bV rfl rfl (by omega)) ?_
       refine Wl.gl 6 [] ?_
       refine Wl.p (aI rfl T.u214 rfl (by omega)) ?_
       refine aA 1 [] ?_
       refine Wl.p (kO rfl rfl (by omega)) ?_
       refine Wl.gl 8 [] ?_
       refine Wl.p (cF rfl T.u215 rfl) ?_
       refine bR (α:=U32) T.sl123 ?_
       refine bG (z:=_) 0 T.size215 rfl rfl rfl ‹_› (by omega) rfl fun ho1=>?_
       refine Wl.gl 4 [] ?_
       refine Wl.p (bI rfl rfl (by omega)) ?_
       refine Wl.p (iB rfl rfl (by omega)) ?_
       refine Wl.ga 8 [] ?_
       have es:((la[((i:Nat):Int).toNat]?.getD default).v - (cy+(lb[((i:Nat):Int).toNat]?.getD default).v)+18446744073709551616) % 4294967296=((la[((i:Nat):Int).toNat]?.getD default).v - (cy+(lb[((i:Nat):Int).toNat]?.getD default).v)+4294967296):=by omega
       have ec:((la[((i:Nat):Int).toNat]?.getD default).v - (cy+(lb[((i:Nat):Int).toNat]?.getD default).v)+18446744073709551616) / 4294967296 % 2=1:=by omega
       refine Ar.re 7 rfl (show _=Value.int .u64 1 by rw [ec]) ?_
       refine Ar.reH 0 (Row 215 (r.set i (⟨((la[((i:Nat):Int).toNat]?.getD default).v - (cy+(lb[((i:Nat):Int).toNat]?.getD default).v)+4294967296)⟩:U32)) []) rfl (by rw [es,Int.toNat_natCast]) ?_
       refine Ar.re 6 rfl (show _=Value.slice (some ⟨b1,0,none⟩) (r.set i (⟨((la[((i:Nat):Int).toNat]?.getD default).v - (cy+(lb[((i:Nat):Int).toNat]?.getD default).v)+4294967296)⟩:U32)).length N by rw [List.length_set]) ?_
       refine aH ((i+1,1,r.set i (⟨((la[((i:Nat):Int).toNat]?.getD default).v - (cy+(lb[((i:Nat):Int).toNat]?.getD default).v)+4294967296)⟩:U32))) ?_ ?_
       · exact ⟨by omega,by rw [List.length_set];exact hrN,bT hdr _ (by omega),by decide,by decide,pR (cy':=1) (by omega) hv (by rw [←e1,←e2];omega)⟩
       show la.length - (i+1)<la.length - i
       omega
     refine Wc.gl 14 [1] ?_
     refine Wl.at (α:=U32) T.sl123 ?_
     refine bM 0 T.one215 ?_
     refine Wl.gl 24 [1] ?_
     refine Wl.at (α:=U32) T.sl123 ?_
     refine bM 0 T.one215 ?_
     refine Wl.p (aI rfl T.u214 rfl (by omega)) ?_
     refine Wl.p (bV rfl rfl (by omega)) ?_
     refine Wl.gl 6 [] ?_
     refine Wl.p (aI rfl T.u214 rfl (by omega)) ?_
     refine aA 1 [] ?_
     refine Wl.p (dA rfl rfl (by omega)) ?_
     refine Wl.gl 8 [] ?_
     refine Wl.p (bX rfl T.u215 rfl (by omega)) ?_
     refine bR (α:=U32) T.sl123 ?_
     refine bG (z:=_) 0 T.size215 rfl rfl rfl ‹_› (by omega) rfl fun ho1=>?_
     refine Wl.gl 4 [] ?_
     refine Wl.p (bI rfl rfl (by omega)) ?_
     refine Wl.p (iB rfl rfl (by omega)) ?_
     refine Wl.ga 8 [] ?_
     have es:((la[((i:Nat):Int).toNat]?.getD default).v - (cy+(lb[((i:Nat):Int).toNat]?.getD default).v))=((la[((i:Nat):Int).toNat]?.getD default).v - (cy+(lb[((i:Nat):Int).toNat]?.getD default).v)):=by omega
     have ec:((la[((i:Nat):Int).toNat]?.getD default).v - (cy+(lb[((i:Nat):Int).toNat]?.getD default).v)) / 4294967296 % 2=0:=by omega
     refine Ar.re 7 rfl (show _=Value.int .u64 0 by rw [ec]) ?_
     refine Ar.reH 0 (Row 215 (r.set i (⟨((la[((i:Nat):Int).toNat]?.getD default).v - (cy+(lb[((i:Nat):Int).toNat]?.getD default).v))⟩:U32)) []) rfl (by rw [es,Int.toNat_natCast]) ?_
     refine Ar.re 6 rfl (show _=Value.slice (some ⟨b1,0,none⟩) (r.set i (⟨((la[((i:Nat):Int).toNat]?.getD default).v - (cy+(lb[((i:Nat):Int).toNat]?.getD default).v))⟩:U32)).length N by rw [List.length_set]) ?_
     refine aH ((i+1,0,r.set i (⟨((la[((i:Nat):Int).toNat]?.getD default).v - (cy+(lb[((i:Nat):Int).toNat]?.getD default).v))⟩:U32))) ?_ ?_
     · exact ⟨by omega,by rw [List.length_set];exact hrN,bT hdr _ (by omega),by decide,by decide,pR (cy':=0) (by omega) hv (by rw [←e1,←e2];omega)⟩
     show la.length - (i+1)<la.length - i
     omega
   have z:=mP hib
   by_cases hlt:(la[((i:Nat):Int).toNat]?.getD default).v<cy
   · refine Wc.gl 14 [1] ?_
     refine Wl.at (α:=U32) T.sl123 ?_
     refine bM 0 T.one215 ?_
     refine Wl.gl 25 [0] ?_
     refine Wl.p (aI rfl T.u214 rfl (by omega)) ?_
     refine aA 1 [] ?_
     refine Wl.p (kO rfl rfl (by omega)) ?_
     refine Wl.gl 8 [] ?_
     refine Wl.p (cF rfl T.u215 rfl) ?_
     refine bR (α:=U32) T.sl123 ?_
     refine bG (z:=_) 0 T.size215 rfl rfl rfl ‹_› (by omega) rfl fun ho1=>?_
     refine Wl.gl 4 [] ?_
     refine Wl.p (bI rfl rfl (by omega)) ?_
     refine Wl.p (iB rfl rfl (by omega)) ?_
     refine Wl.ga 8 [] ?_
     have es:((la[((i:Nat):Int).toNat]?.getD default).v - (cy)+18446744073709551616) % 4294967296=((la[((i:Nat):Int).toNat]?.getD default).v - (cy)+4294967296):=by omega
     have ec:((la[((i:Nat):Int).toNat]?.getD default).v - (cy)+18446744073709551616) / 4294967296 % 2=1:=by omega
     refine Ar.re 7 rfl (show _=Value.int .u64 1 by rw [ec]) ?_
     refine Ar.reH 0 (Row 215 (r.set i (⟨((la[((i:Nat):Int).toNat]?.getD default).v - (cy)+4294967296)⟩:U32)) []) rfl (by rw [es,Int.toNat_natCast]) ?_
     refine Ar.re 6 rfl (show _=Value.slice (some ⟨b1,0,none⟩) (r.set i (⟨((la[((i:Nat):Int).toNat]?.getD default).v - (cy)+4294967296)⟩:U32)).length N by rw [List.length_set]) ?_
     refine aH ((i+1,1,r.set i (⟨((la[((i:Nat):Int).toNat]?.getD default).v - (cy)+4294967296)⟩:U32))) ?_ ?_
     · exact ⟨by omega,by rw [List.length_set];exact hrN,bT hdr _ (by omega),by decide,by decide,pR (cy':=1) (by omega) hv (by rw [←e1,z];omega)⟩
     show la.length - (i+1)<la.length - i
     omega
   refine Wc.gl 14 [1] ?_
   refine Wl.at (α:=U32) T.sl123 ?_
   refine bM 0 T.one215 ?_
   refine Wl.gl 25 [0] ?_
   refine Wl.p (aI rfl T.u214 rfl (by omega)) ?_
   refine aA 1 [] ?_
   refine Wl.p (dA rfl rfl (by omega)) ?_
   refine Wl.gl 8 [] ?_
   refine Wl.p (bX rfl T.u215 rfl (by omega)) ?_
   refine bR (α:=U32) T.sl123 ?_
   refine bG (z:=_) 0 T.size215 rfl rfl rfl ‹_› (by omega) rfl fun ho1=>?_
   refine Wl.gl 4 [] ?_
   refine Wl.p (bI rfl rfl (by omega)) ?_
   refine Wl.p (iB rfl rfl (by omega)) ?_
   refine Wl.ga 8 [] ?_
   have es:((la[((i:Nat):Int).toNat]?.getD default).v - (cy))=((la[((i:Nat):Int).toNat]?.getD default).v - (cy)):=by omega
   have ec:((la[((i:Nat):Int).toNat]?.getD default).v - (cy)) / 4294967296 % 2=0:=by omega
   refine Ar.re 7 rfl (show _=Value.int .u64 0 by rw [ec]) ?_
   refine Ar.reH 0 (Row 215 (r.set i (⟨((la[((i:Nat):Int).toNat]?.getD default).v - (cy))⟩:U32)) []) rfl (by rw [es,Int.toNat_natCast]) ?_
   refine Ar.re 6 rfl (show _=Value.slice (some ⟨b1,0,none⟩) (r.set i (⟨((la[((i:Nat):Int).toNat]?.getD default).v - (cy))⟩:U32)).length N by rw [List.length_set]) ?_
   refine aH ((i+1,0,r.set i (⟨((la[((i:Nat):Int).toNat]?.getD default).v - (cy))⟩:U32))) ?_ ?_
   · exact ⟨by omega,by rw [List.length_set];exact hrN,bT hdr _ (by omega),by decide,by decide,pR (cy':=0) (by omega) hv (by rw [←e1,z];omega)⟩
   show la.length - (i+1)<la.length - i
   omega
 have hii:i=la.length:=by omega
 subst hii
 refine Wc.gl 15 [0] ?_
 refine Wl.freezeRow 0 rfl hor fun G9 hle9 hA=>?_
 refine Wl.k 1 rfl (sR _ _ _ _ ‹_› (by omega) (by first | assumption | omega)) fun v1 G1 Ho1 hle1 hp=>?_
 obtain ⟨ta1,tm1,rfl,hta1,hte1,htr1,htl1,rfl,rfl⟩:=hp
 refine Wl.ga 5 [] ?_
 refine Ar.e2 ?_
 exact ⟨_,rfl,Nat32.of hta1 hte1 htr1 hdr (aPL rfl h2 hle (by omega) hdr ⟨hc0,hc1⟩ hv) (by omega),rfl⟩
end
theorem pS (n k:Nat):lg (List.replicate n (default:U32)) k=0:=by
 unfold lg
 rw [Int.toNat_natCast,List.getElem?_replicate]
 split <;> rfl
section
attribute [local irreducible] aB pb bL
theorem c134 (G:Imm) (a b:Option Addr) (ca cb:Nat) (la lb:List U32) (ha:Arr G a la) (hb:Arr G b lb) (da:Lims la) (db:Lims lb) (h1:la.length≤536870912) (h2:lb.length≤536870912) :
 Does Tryz.prog 134 [.slice a la.length ca,.slice b lb.length cb] G [] (fun v G' Ho=>Nat32 G' v (aB la*aB lb) (la.length+lb.length)∧Ho=[]):=by
 refine D0 Tryz.func134 Tryz.ntmps134 fun w=>?_
 refine Wc.gl 12 [] ?_
 refine Wl.make (α:=U32) 0 rfl T.sl123 T.el215 rfl rfl (by omega) (by omega) fun b1=>?_
 refine Wl.gc 12 [] ?_
 obtain ⟨N,hN⟩:∃ N,N=la.length+lb.length:=⟨_,rfl⟩
 have hM:((la.length:Int)+(lb.length:Int)).toNat=N:=by omega
 rw [hM]
 have hown:∀ r:List U32,r.length=N→OwnA (some ⟨b1,0,none⟩) N r []:=fun r hr=>.inr ⟨b1,rfl,by rw [hr];rfl,by omega,by simp only [maxLen];omega⟩
 refine Wc.re 5 rfl (show _=Value.slice (some ⟨b1,0,none⟩) (List.replicate N (default:U32)).length N by rw [List.length_replicate]) ?_
 refine Wc.lp (ι:=Nat×List U32) (fun (i,r)=>([(19,.int .i64 (i:Int)),(5,.slice (some ⟨b1,0,none⟩) r.length N),(18,.int .i64 (la.length:Int)),(17,.slice a (List.length la) ca),(4,.slice none 0 0),(1,.slice b (List.length lb) cb)],[(0,some b1,Row 215 r [])])) (fun (i,r)=>i≤la.length∧r.length=N∧Lims r∧aB r=aB (la.take i)*aB lb∧∀ k,i+lb.length≤k→lg r k=0) (fun (i,r)=>la.length - i) ((0,List.replicate N (default:U32))) (⟨Nat.zero_le _,List.length_replicate,fR N,by rw [List.take_zero,bW,Int.zero_mul];exact jK N,fun k _=>pS N k⟩) fun ⟨i,r⟩=>fun hk=>?_
 obtain ⟨hi,hrN,hdr,hv,hz⟩:=hk
 rcases Nat.lt_or_ge i la.length with hia | hia
 · have hxi:0≤(la[((i:Nat):Int).toNat]?.getD default).v∧(la[((i:Nat):Int).toNat]?.getD default).v<4294967296:=jY da hia
   refine Wc.gl 14 [1] ?_
   refine Wl.at (α:=U32) T.sl123 ?_
   refine bM 0 T.one215 ?_
   refine Wl.gc 18 [] ?_
   refine Wc.lp (ι:=Nat×Int×List U32) (fun (j,c,s)=>([(26,.int .i64 (j:Int)),(8,.int .u64 c),(5,.slice (some ⟨b1,0,none⟩) s.length N),(17,.slice a la.length ca),(18,.int .i64 (la.length:Int)),(25,.int .i64 (lb.length:Int)),(24,.slice b (List.length lb) cb),(7,.int .u32 (Go.Sl.U32.v (Option.getD la[Int.toNat (↑i:Int)]? default))),(6,.int .i64 (↑i:Int)),(19,.int .i64 (↑i:Int)),(4,.slice none 0 0),(1,.slice b (List.length lb) cb)],[(0,some b1,Row 215 s [])])) (fun (j,c,s)=>0≤c∧c≤4294967295∧s.length=N∧Lims s∧aB s+pb (i+j)*c=aB (la.take i)*aB lb+pb i*(lg la i*aB (lb.take j))∧j≤lb.length∧∀ k,i+lb.length≤k→lg s k=0) (fun (j,c,s)=>lb.length - j) ((0,0,r)) (⟨by decide,by decide,hrN,hdr,by rw [Int.mul_zero,List.take_zero,bW,Int.mul_zero,Int.mul_zero,Int.add_zero,Int.add_zero];exact hv,Nat.zero_le _,hz⟩) fun ⟨j,c,s⟩=>fun hk=>?_
   obtain ⟨hc0,hc1,hsN,hds,hvs,hjl,hzs⟩:=hk
   have hos:=hown s hsN
   have ekk:((i:Int)+(j:Int)).toNat=i+j:=by omega
   rcases Nat.lt_or_ge j lb.length with hjb | hjb
   · have hyj:0≤(lb[((j:Nat):Int).toNat]?.getD default).v∧(lb[((j:Nat):Int).toNat]?.getD default).v<4294967296:=jY db hjb
     have hxy:=lN hxi hyj
     have hxy2:0≤(la[((i:Nat):Int).toNat]?.getD default).v*(lb[((j:Nat):Int).toNat]?.getD default).v∧(la[((i:Nat):Int).toNat]?.getD default).v*(lb[((j:Nat):Int).toNat]?.getD default).v≤18446744073709551615:=by omega
     have hsk:0≤(s[((i:Int)+(j:Int)).toNat]?.getD default).v∧(s[((i:Int)+(j:Int)).toNat]?.getD default).v<4294967296:=hds.at (by omega)
     refine Wc.gl 14 [1] ?_
     refine Wl.at (α:=U32) T.sl123 ?_
     refine bM 0 T.one215 ?_
     refine Wl.gl 8 [] ?_
     refine Wl.p (aI rfl T.u214 rfl (by omega)) ?_
     refine aA 1 [] ?_
     refine Wl.p (aI rfl T.u214 rfl (by omega)) ?_
     refine Wl.p (fW rfl rfl (by first | assumption | omega)) ?_
     refine aA 4 [] ?_
     refine bR (α:=U32) T.sl123 ?_
     refine Wl.lo 0 0 T.one215 ?_
     refine Wl.p (aI rfl T.u214 rfl (by omega)) ?_
     refine Wl.p (bV rfl rfl (by omega)) ?_
     refine Wl.p (bV rfl rfl (by omega)) ?_
     refine Wl.gl 10 [] ?_
     refine Wl.p (cF rfl T.u215 rfl) ?_
     refine bR (α:=U32) T.sl123 ?_
     refine bG (z:=_) 0 T.size215 rfl rfl rfl ‹_› (by omega) rfl fun ho1=>?_
     refine Wl.gl 4 [] ?_
     refine Wl.p (bI rfl rfl (by omega)) ?_
     refine Wl.ga 8 [] ?_
     rw [ekk] at ⊢ hsk
     refine Ar.re 5 rfl (show _=Value.slice (some ⟨b1,0,none⟩) (s.set (i+j) (⟨(c+((la[((i:Nat):Int).toNat]?.getD default).v*(lb[((j:Nat):Int).toNat]?.getD default).v+(s[i+j]?.getD default).v)) % 4294967296⟩:U32)).length N by rw [List.length_set]) ?_
     refine aH ((j+1,(c+((la[((i:Nat):Int).toNat]?.getD default).v*(lb[((j:Nat):Int).toNat]?.getD default).v+(s[i+j]?.getD default).v)) / 4294967296,s.set (i+j) (⟨(c+((la[((i:Nat):Int).toNat]?.getD default).v*(lb[((j:Nat):Int).toNat]?.getD default).v+(s[i+j]?.getD default).v)) % 4294967296⟩:U32))) ?_ ?_
     · exact ⟨by omega,by omega,by rw [List.length_set];exact hsN,bT hds _ (nW _),aHZ (by omega) hvs (by simp only [lg,Int.toNat_natCast]),by omega,fun k hk=>by rw [gX (by omega)];exact hzs k hk⟩
     show lb.length - (j+1)<lb.length - j
     omega
   have hjj:j=lb.length:=by omega
   subst hjj
   refine Wc.gl 19 [0] ?_
   refine Wl.p (bX rfl T.u215 rfl (by omega)) ?_
   refine bR (α:=U32) T.sl123 ?_
   refine bG (z:=_) 0 T.size215 rfl rfl rfl ‹_› (by omega) rfl fun ho1=>?_
   refine Wl.ga 7 [] ?_
   rw [ekk]
   refine Ar.re 5 rfl (show _=Value.slice (some ⟨b1,0,none⟩) (s.set (i+lb.length) (⟨c⟩:U32)).length N by rw [List.length_set]) ?_
   refine aH ((i+1,s.set (i+lb.length) (⟨c⟩:U32))) ?_ ?_
   · exact ⟨by omega,by rw [List.length_set];exact hsN,bT hds _ (by omega),aKW (by omega) (hzs _ (Nat.le_refl _)) hvs,fun k hk=>by rw [gX (by omega)];exact hzs k (by omega)⟩
   show la.length - (i+1)<la.length - i
   omega
 have hor:=hown r hrN
 rw [aQ hia] at hv
 refine Wc.gl 15 [0] ?_
 refine Wl.freezeRow 0 rfl hor fun G9 hle9 hA=>?_
 refine Wl.k 1 rfl (sR _ _ _ _ ‹_› (by omega) (by first | assumption | omega)) fun v1 G1 Ho1 hle1 hp=>?_
 obtain ⟨ta1,tm1,rfl,hta1,hte1,htr1,htl1,rfl,rfl⟩:=hp
 refine Wl.ga 4 [] ?_
 refine Ar.e1 ?_
 exact ⟨Nat32.of hta1 hte1 htr1 hdr hv (by omega),rfl⟩
theorem c248 (G:Imm) (a:Option Addr) (ca:Nat) (la:List U32) (B:Int) (ha:Arr G a la) (da:Lims la) (h1:la.length≤1073741824) (hB:0<B) (hB2:B<4294967296) :
 Does Tryz.prog 248 [.slice a la.length ca,.int .u32 B] G [] (fun v G' Ho=>∃ r q m,v=.tuple #[r,.int .u32 m,.int .i64 0]∧Nat32 G' r q la.length∧aB la=q*B+m∧0≤m∧m<B∧Ho=[]):=by
 refine D0 Tryz.func248 Tryz.ntmps248 fun w=>?_
 refine Wc.gl 21 [0] ?_
 refine Wl.make (α:=U32) 0 rfl T.sl123 T.el215 rfl rfl (by omega) (by omega) fun b1=>?_
 refine Wl.gc 18 [] ?_
 obtain ⟨N,hN⟩:∃ N,N=la.length:=⟨_,rfl⟩
 have hM:(la.length:Int).toNat=N:=by omega
 rw [hM]
 have hown:∀ r:List U32,r.length=N→OwnA (some ⟨b1,0,none⟩) N r []:=fun r hr=>.inr ⟨b1,rfl,by rw [hr];rfl,by omega,by simp only [maxLen];omega⟩
 refine Wc.re 7 rfl (show _=Value.slice (some ⟨b1,0,none⟩) (List.replicate N (default:U32)).length N by rw [List.length_replicate]) ?_
 refine Wc.lp (ι:=Nat×Int×List U32) (fun (k,r,q)=>([(9,.int .i64 ((k:Int) - 1)),(8,.int .u64 r),(7,.slice (some ⟨b1,0,none⟩) q.length N),(6,.int .i64 0),(5,.int .u32 0),(4,.slice none 0 0),(0,.slice a (List.length la) ca),(1,.int .u32 B)],[(0,some b1,Row 215 q [])])) (fun (k,r,q)=>k≤la.length∧q.length=N∧Lims q∧0≤r∧r<B∧aB (la.drop k)=aB (q.drop k)*B+r) (fun (k,r,q)=>k) ((la.length,0,List.replicate N (default:U32))) (⟨Nat.le_refl _,List.length_replicate,fR N,by decide,hB,by rw [List.drop_eq_nil_of_le (Nat.le_refl _),List.drop_eq_nil_of_le (by rw [List.length_replicate];omega),bW,Int.zero_mul];rfl⟩) fun ⟨k,r,q⟩=>fun hk=>?_
 obtain ⟨hk1,hqN,hdq,hr0,hr1,hv⟩:=hk
 have hoq:=hown q hqN
 rcases Nat.eq_zero_or_pos k with rfl | hpos
 · rw [List.drop_zero,List.drop_zero] at hv
   refine Wc.gl 16 [0] ?_
   refine Wl.freezeRow 0 rfl hoq fun G9 hle9 hA=>?_
   refine Wl.k 1 rfl (sR _ _ _ _ ‹_› (by omega) (by first | assumption | omega)) fun v1 G1 Ho1 hle1 hp=>?_
   obtain ⟨ta1,tm1,rfl,hta1,hte1,htr1,htl1,rfl,rfl⟩:=hp
   refine aA 1 [] ?_
   refine Wl.p (bX rfl T.u215 rfl (by omega)) ?_
   refine Wl.ga 6 [] ?_
   refine Ar.e3 ?_
   exact ⟨_,_,_,rfl,Nat32.of hta1 hte1 htr1 hdq rfl (by omega),hv,hr0,hr1,rfl⟩
 obtain ⟨i,rfl⟩:∃ i,k=i+1:=⟨k - 1,by omega⟩
 have hai:=jY da (show i<la.length by omega)
 have ei:(((i+1:Nat):Int) - 1).toNat=i:=by omega
 have eA:(la[(((i+1:Nat):Int) - 1).toNat]?.getD default).v=lg la i:=by unfold lg;rw [ei,Int.toNat_natCast]
 have hsl:=aIA ⟨hr0,hr1⟩ hai
 have hsl':0≤(r*4294967296+(la[(((i+1:Nat):Int) - 1).toNat]?.getD default).v) / B∧(r*4294967296+(la[(((i+1:Nat):Int) - 1).toNat]?.getD default).v) / B≤4294967295:=by
  rw [eA]
  exact ⟨hsl.1,by have:=hsl.2;omega⟩
 have hrm:0≤(r*4294967296+lg la i) % B∧(r*4294967296+lg la i) % B<B:=⟨Int.emod_nonneg _ (by omega),Int.emod_lt_of_pos _ hB⟩
 refine Wc.gl 15 [1] ?_
 refine Wl.p (mO rfl rfl (by omega)) ?_
 refine aA 2 [] ?_
 refine Wl.at (α:=U32) T.sl123 ?_
 refine bM 0 T.one215 ?_
 refine Wl.p (aI rfl T.u214 rfl (by omega)) ?_
 refine Wl.p (pP rfl rfl (by omega) (by omega)) ?_
 refine Wl.gl 9 [] ?_
 refine Wl.p (aI rfl T.u214 rfl (by omega)) ?_
 refine Wl.p (gW rfl rfl (by omega)) ?_
 refine Wl.p (bX rfl T.u215 rfl (by omega)) ?_
 refine bR (α:=U32) T.sl123 ?_
 refine bG (z:=_) 0 T.size215 rfl rfl rfl ‹_› (by omega) rfl fun ho1=>?_
 refine Wl.gl 5 [] ?_
 refine Wl.p (aI rfl T.u214 rfl (by omega)) ?_
 refine Wl.p (cO rfl rfl (by omega)) ?_
 refine Wl.ga 9 [] ?_
 rw [eA]
 refine Ar.re 9 rfl (show _=Value.int .i64 ((i:Int) - 1) by congr 1;omega) ?_
 refine Ar.reH 0 (Row 215 (q.set i ⟨(r*4294967296+lg la i) / B⟩) []) rfl (by rw [ei]) ?_
 refine Ar.re 7 rfl (show _=Value.slice (some ⟨b1,0,none⟩) (q.set i ⟨(r*4294967296+lg la i) / B⟩).length N by rw [List.length_set]) ?_
 refine aH ((i,(r*4294967296+lg la i) % B,q.set i ⟨(r*4294967296+lg la i) / B⟩)) ?_ ?_
 · exact ⟨by omega,by rw [List.length_set];exact hqN,bT hdq _ hsl,hrm.1,hrm.2,aAZ (by omega) (by omega) hv⟩
 show i<i+1
 omega
end
theorem aFN {r s:List U32} {i:Nat} (h:s.drop i=r.drop i):lg s i=lg r i:=by
 have e:s[i]?=r[i]?:=by
  have:=congrArg (·[0]?) h
  simpa [List.getElem?_drop] using this
 unfold lg;rw [Int.toNat_natCast,e]
theorem fB {r s:List U32} {i:Nat} (h:s.drop i=r.drop i) (d:U32):(s.set i d).drop (i+1)=r.drop (i+1):=by
 rw [List.drop_set_of_lt (by omega),←List.drop_drop,←List.drop_drop,h]
section
attribute [local irreducible] aB pb bL
theorem c269 (G:Imm) (b:Nat) (p u q:List U32) (junk:List Value) (cw:Nat) (v:Option Addr) (cv:Nat) (lv:List U32) (t:Int) (hv:Arr G v lv) (du:Lims u) (dv:Lims lv) (h1:u.length≤1073741824) (h2:lv.length<u.length) (ht:0≤t∧t<4294967296) :
 Does Tryz.prog 269 [.slice (some ⟨b,p.length,none⟩) u.length cw,.slice v lv.length cv,.int .u64 t] G [(0,some b,Row 215 (p++(u++q)) junk)] (fun r G' Ho=>∃ (w:List U32) (o:Int),r=.bool (decide (0<o))∧Ho=[(0,some b,Row 215 (p++(w++q)) junk)]∧G'=G∧(o=0∨o=1)∧w.length=u.length∧Lims w∧aB u - t*aB lv=aB w - pb u.length*o):=by
 refine D0 Tryz.func269 Tryz.ntmps269 fun w=>?_
 refine Wc.gc 20 [] ?_
 refine Wc.lp (ι:=Nat×Int×Int×List U32) (fun (i,c,o,w)=>([(13,.int .i64 (i:Int)),(7,.int .u64 c),(8,.int .u64 o),(12,.int .i64 (u.length:Int)),(6,.bool Bool.false),(0,.slice (some (Addr.mk b (List.length p) none)) (List.length u) cw),(1,.slice v (List.length lv) cv),(2,.int .u64 t)],[(0,some b,Row 215 (p++(w++q)) junk)])) (fun (i,c,o,w)=>i≤u.length∧w.length=u.length∧Lims w∧0≤c∧c<4294967296∧0≤o∧o≤1∧(lv.length<i→c=0)∧w.drop i=u.drop i∧aB (u.take i) - t*aB (lv.take i)=aB (w.take i) - pb i*(o+c)) (fun (i,c,o,w)=>u.length - i) ((0,0,0,u)) (⟨Nat.zero_le _,rfl,du,by decide,by decide,by decide,by decide,fun _=>rfl,rfl,by rw [List.take_zero,List.take_zero,bW,Int.mul_zero,Int.add_zero,Int.mul_zero]⟩) fun ⟨i,c,o,w⟩=>fun hk=>?_
 obtain ⟨hi,hwn,hdw,hc0,hc1,ho0,ho1,hcz,hdrop,hval⟩:=hk
 rcases Nat.lt_or_ge i u.length with hia | hia
 · have hx:0≤(w[((i:Nat):Int).toNat]?.getD default).v∧(w[((i:Nat):Int).toNat]?.getD default).v<4294967296:=jY hdw (by omega)
   have ex:(w[((i:Nat):Int).toNat]?.getD default).v=lg u i:=aFN hdrop
   rcases Nat.lt_or_ge i lv.length with hib | hib
   · have hy:0≤(lv[((i:Nat):Int).toNat]?.getD default).v∧(lv[((i:Nat):Int).toNat]?.getD default).v<4294967296:=jY dv hib
     have hca:=aDV ⟨hc0,hc1⟩ hy ht
     have hm:0≤(lv[((i:Nat):Int).toNat]?.getD default).v*t∧(lv[((i:Nat):Int).toNat]?.getD default).v*t≤18446744073709551615:=by omega
     by_cases hlt:(w[((i:Nat):Int).toNat]?.getD default).v<(c+(lv[((i:Nat):Int).toNat]?.getD default).v*t) % 4294967296
     · refine Wc.gl 31 [1,1] ?_
       refine Wl.at (α:=U32) T.sl123 ?_
       refine bM 0 T.one215 ?_
       refine Wl.p (aI rfl T.u214 rfl (by omega)) ?_
       refine aA 1 [] ?_
       refine Wl.p (fW rfl rfl (by first | assumption | omega)) ?_
       refine Wl.p (bV rfl rfl (by omega)) ?_
       refine Wl.gl 7 [] ?_
       refine Wl.p (Qy.indexAddr T.sl123 rfl rfl (by omega)) ?_
       refine Wl.p (eN 0 T.one215 rfl rfl (by omega)) ?_
       refine Wl.p (aI rfl T.u214 rfl (by omega)) ?_
       refine aA 1 [] ?_
       refine Wl.p (iZ rfl rfl (by omega)) ?_
       refine Wl.p (kO rfl rfl (by omega)) ?_
       refine aA 1 [] ?_
       refine Wl.p (dA rfl rfl (by omega)) ?_
       refine Wl.gl 6 [] ?_
       refine Wl.p (bI rfl rfl (by omega)) ?_
       refine Wl.gl 8 [] ?_
       refine Wl.p (cF rfl T.u215 rfl) ?_
       refine Wl.p (Qy.indexAddr T.sl123 rfl rfl (by omega)) ?_
       refine jZ 0 T.size215 rfl rfl rfl (by omega) ?_
       refine Wl.gl 4 [] ?_
       refine Wl.p (bI rfl rfl (by omega)) ?_
       refine Wl.p (iB rfl rfl (by omega)) ?_
       refine Wl.ga 8 [] ?_
       have es:((w[((i:Nat):Int).toNat]?.getD default).v - (c+(lv[((i:Nat):Int).toNat]?.getD default).v*t) % 4294967296+18446744073709551616 - o) % 4294967296=((w[((i:Nat):Int).toNat]?.getD default).v - (c+(lv[((i:Nat):Int).toNat]?.getD default).v*t) % 4294967296 - o+4294967296*1):=by omega
       have ec:((w[((i:Nat):Int).toNat]?.getD default).v - (c+(lv[((i:Nat):Int).toNat]?.getD default).v*t) % 4294967296+18446744073709551616 - o) / 4294967296 % 2=1:=by omega
       refine Ar.re 8 rfl (show _=Value.int .u64 1 by rw [ec]) ?_
       refine Ar.reH 0 (Row 215 (p++(w.set i (⟨((w[((i:Nat):Int).toNat]?.getD default).v - (c+(lv[((i:Nat):Int).toNat]?.getD default).v*t) % 4294967296 - o+4294967296*1)⟩:U32)++q)) junk) rfl (by rw [←es,Int.toNat_natCast]) ?_
       refine aH ((i+1,(c+(lv[((i:Nat):Int).toNat]?.getD default).v*t) / 4294967296,1,w.set i (⟨((w[((i:Nat):Int).toNat]?.getD default).v - (c+(lv[((i:Nat):Int).toNat]?.getD default).v*t) % 4294967296 - o+4294967296*1)⟩:U32))) ?_ ?_
       · exact ⟨by omega,by rw [List.length_set];exact hwn,bT hdw _ (by omega),by omega,by omega,by decide,by decide,by omega,fB hdrop _,jA (c':=(c+(lv[((i:Nat):Int).toNat]?.getD default).v*t)) (b:=o) (b':=1) (by omega) hval (by rfl) (by rw [←ex])⟩
       show u.length - (i+1)<u.length - i
       omega
     by_cases hlt2:(w[((i:Nat):Int).toNat]?.getD default).v - (c+(lv[((i:Nat):Int).toNat]?.getD default).v*t) % 4294967296<o
     · refine Wc.gl 31 [1,1] ?_
       refine Wl.at (α:=U32) T.sl123 ?_
       refine bM 0 T.one215 ?_
       refine Wl.p (aI rfl T.u214 rfl (by omega)) ?_
       refine aA 1 [] ?_
       refine Wl.p (fW rfl rfl (by first | assumption | omega)) ?_
       refine Wl.p (bV rfl rfl (by omega)) ?_
       refine Wl.gl 7 [] ?_
       refine Wl.p (Qy.indexAddr T.sl123 rfl rfl (by omega)) ?_
       refine Wl.p (eN 0 T.one215 rfl rfl (by omega)) ?_
       refine Wl.p (aI rfl T.u214 rfl (by omega)) ?_
       refine aA 1 [] ?_
       refine Wl.p (iZ rfl rfl (by omega)) ?_
       refine Wl.p (dA rfl rfl (by omega)) ?_
       refine aA 1 [] ?_
       refine Wl.p (kO rfl rfl (by omega)) ?_
       refine Wl.gl 6 [] ?_
       refine Wl.p (bI rfl rfl (by omega)) ?_
       refine Wl.gl 8 [] ?_
       refine Wl.p (cF rfl T.u215 rfl) ?_
       refine Wl.p (Qy.indexAddr T.sl123 rfl rfl (by omega)) ?_
       refine jZ 0 T.size215 rfl rfl rfl (by omega) ?_
       refine Wl.gl 4 [] ?_
       refine Wl.p (bI rfl rfl (by omega)) ?_
       refine Wl.p (iB rfl rfl (by omega)) ?_
       refine Wl.ga 8 [] ?_
       have es:((w[((i:Nat):Int).toNat]?.getD default).v - (c+(lv[((i:Nat):Int).toNat]?.getD default).v*t) % 4294967296 - o+18446744073709551616) % 4294967296=((w[((i:Nat):Int).toNat]?.getD default).v - (c+(lv[((i:Nat):Int).toNat]?.getD default).v*t) % 4294967296 - o+4294967296*1):=by omega
       have ec:((w[((i:Nat):Int).toNat]?.getD default).v - (c+(lv[((i:Nat):Int).toNat]?.getD default).v*t) % 4294967296 - o+18446744073709551616) / 4294967296 % 2=1:=by omega
       refine Ar.re 8 rfl (show _=Value.int .u64 1 by rw [ec]) ?_
       refine Ar.reH 0 (Row 215 (p++(w.set i (⟨((w[((i:Nat):Int).toNat]?.getD default).v - (c+(lv[((i:Nat):Int).toNat]?.getD default).v*t) % 4294967296 - o+4294967296*1)⟩:U32)++q)) junk) rfl (by rw [←es,Int.toNat_natCast]) ?_
       refine aH ((i+1,(c+(lv[((i:Nat):Int).toNat]?.getD default).v*t) / 4294967296,1,w.set i (⟨((w[((i:Nat):Int).toNat]?.getD default).v - (c+(lv[((i:Nat):Int).toNat]?.getD default).v*t) % 4294967296 - o+4294967296*1)⟩:U32))) ?_ ?_
       · exact ⟨by omega,by rw [List.length_set];exact hwn,bT hdw _ (by omega),by omega,by omega,by decide,by decide,by omega,fB hdrop _,jA (c':=(c+(lv[((i:Nat):Int).toNat]?.getD default).v*t)) (b:=o) (b':=1) (by omega) hval (by rfl) (by rw [←ex])⟩
       show u.length - (i+1)<u.length - i
       omega
     refine Wc.gl 31 [1,1] ?_
     refine Wl.at (α:=U32) T.sl123 ?_
     refine bM 0 T.one215 ?_
     refine Wl.p (aI rfl T.u214 rfl (by omega)) ?_
     refine aA 1 [] ?_
     refine Wl.p (fW rfl rfl (by first | assumption | omega)) ?_
     refine Wl.p (bV rfl rfl (by omega)) ?_
     refine Wl.gl 7 [] ?_
     refine Wl.p (Qy.indexAddr T.sl123 rfl rfl (by omega)) ?_
     refine Wl.p (eN 0 T.one215 rfl rfl (by omega)) ?_
     refine Wl.p (aI rfl T.u214 rfl (by omega)) ?_
     refine aA 1 [] ?_
     refine Wl.p (iZ rfl rfl (by omega)) ?_
     refine Wl.p (dA rfl rfl (by omega)) ?_
     refine aA 1 [] ?_
     refine Wl.p (dA rfl rfl (by omega)) ?_
     refine Wl.gl 6 [] ?_
     refine Wl.p (bI rfl rfl (by omega)) ?_
     refine Wl.gl 8 [] ?_
     refine Wl.p (bX rfl T.u215 rfl (by omega)) ?_
     refine Wl.p (Qy.indexAddr T.sl123 rfl rfl (by omega)) ?_
     refine jZ 0 T.size215 rfl rfl rfl (by omega) ?_
     refine Wl.gl 4 [] ?_
     refine Wl.p (bI rfl rfl (by omega)) ?_
     refine Wl.p (iB rfl rfl (by omega)) ?_
     refine Wl.ga 8 [] ?_
     have es:((w[((i:Nat):Int).toNat]?.getD default).v - (c+(lv[((i:Nat):Int).toNat]?.getD default).v*t) % 4294967296 - o)=((w[((i:Nat):Int).toNat]?.getD default).v - (c+(lv[((i:Nat):Int).toNat]?.getD default).v*t) % 4294967296 - o+4294967296*0):=by omega
     have ec:((w[((i:Nat):Int).toNat]?.getD default).v - (c+(lv[((i:Nat):Int).toNat]?.getD default).v*t) % 4294967296 - o) / 4294967296 % 2=0:=by omega
     refine Ar.re 8 rfl (show _=Value.int .u64 0 by rw [ec]) ?_
     refine Ar.reH 0 (Row 215 (p++(w.set i (⟨((w[((i:Nat):Int).toNat]?.getD default).v - (c+(lv[((i:Nat):Int).toNat]?.getD default).v*t) % 4294967296 - o+4294967296*0)⟩:U32)++q)) junk) rfl (by rw [←es,Int.toNat_natCast]) ?_
     refine aH ((i+1,(c+(lv[((i:Nat):Int).toNat]?.getD default).v*t) / 4294967296,0,w.set i (⟨((w[((i:Nat):Int).toNat]?.getD default).v - (c+(lv[((i:Nat):Int).toNat]?.getD default).v*t) % 4294967296 - o+4294967296*0)⟩:U32))) ?_ ?_
     · exact ⟨by omega,by rw [List.length_set];exact hwn,bT hdw _ (by omega),by omega,by omega,by decide,by decide,by omega,fB hdrop _,jA (c':=(c+(lv[((i:Nat):Int).toNat]?.getD default).v*t)) (b:=o) (b':=0) (by omega) hval (by rfl) (by rw [←ex])⟩
     show u.length - (i+1)<u.length - i
     omega
   have z:=mP hib
   by_cases hlt:(w[((i:Nat):Int).toNat]?.getD default).v<(c) % 4294967296
   · refine Wc.gl 33 [1,0] ?_
     refine Wl.p (Qy.indexAddr T.sl123 rfl rfl (by omega)) ?_
     refine Wl.p (eN 0 T.one215 rfl rfl (by omega)) ?_
     refine Wl.p (aI rfl T.u214 rfl (by omega)) ?_
     refine aA 1 [] ?_
     refine Wl.p (iZ rfl rfl (by omega)) ?_
     refine Wl.p (kO rfl rfl (by omega)) ?_
     refine aA 1 [] ?_
     refine Wl.p (dA rfl rfl (by omega)) ?_
     refine Wl.gl 6 [] ?_
     refine Wl.p (bI rfl rfl (by omega)) ?_
     refine Wl.gl 8 [] ?_
     refine Wl.p (cF rfl T.u215 rfl) ?_
     refine Wl.p (Qy.indexAddr T.sl123 rfl rfl (by omega)) ?_
     refine jZ 0 T.size215 rfl rfl rfl (by omega) ?_
     refine Wl.gl 4 [] ?_
     refine Wl.p (bI rfl rfl (by omega)) ?_
     refine Wl.p (iB rfl rfl (by omega)) ?_
     refine Wl.ga 8 [] ?_
     have es:((w[((i:Nat):Int).toNat]?.getD default).v - (c) % 4294967296+18446744073709551616 - o) % 4294967296=((w[((i:Nat):Int).toNat]?.getD default).v - (c) % 4294967296 - o+4294967296*1):=by omega
     have ec:((w[((i:Nat):Int).toNat]?.getD default).v - (c) % 4294967296+18446744073709551616 - o) / 4294967296 % 2=1:=by omega
     refine Ar.re 8 rfl (show _=Value.int .u64 1 by rw [ec]) ?_
     refine Ar.reH 0 (Row 215 (p++(w.set i (⟨((w[((i:Nat):Int).toNat]?.getD default).v - (c) % 4294967296 - o+4294967296*1)⟩:U32)++q)) junk) rfl (by rw [←es,Int.toNat_natCast]) ?_
     refine aH ((i+1,(c) / 4294967296,1,w.set i (⟨((w[((i:Nat):Int).toNat]?.getD default).v - (c) % 4294967296 - o+4294967296*1)⟩:U32))) ?_ ?_
     · exact ⟨by omega,by rw [List.length_set];exact hwn,bT hdw _ (by omega),by omega,by omega,by decide,by decide,by intro _;omega,fB hdrop _,jA (c':=(c)) (b:=o) (b':=1) (by omega) hval (by rw [z,Int.zero_mul,Int.add_zero]) (by rw [←ex])⟩
     show u.length - (i+1)<u.length - i
     omega
   by_cases hlt2:(w[((i:Nat):Int).toNat]?.getD default).v - (c) % 4294967296<o
   · refine Wc.gl 33 [1,0] ?_
     refine Wl.p (Qy.indexAddr T.sl123 rfl rfl (by omega)) ?_
     refine Wl.p (eN 0 T.one215 rfl rfl (by omega)) ?_
     refine Wl.p (aI rfl T.u214 rfl (by omega)) ?_
     refine aA 1 [] ?_
     refine Wl.p (iZ rfl rfl (by omega)) ?_
     refine Wl.p (dA rfl rfl (by omega)) ?_
     refine aA 1 [] ?_
     refine Wl.p (kO rfl rfl (by omega)) ?_
     refine Wl.gl 6 [] ?_
     refine Wl.p (bI rfl rfl (by omega)) ?_
     refine Wl.gl 8 [] ?_
     refine Wl.p (cF rfl T.u215 rfl) ?_
     refine Wl.p (Qy.indexAddr T.sl123 rfl rfl (by omega)) ?_
     refine jZ 0 T.size215 rfl rfl rfl (by omega) ?_
     refine Wl.gl 4 [] ?_
     refine Wl.p (bI rfl rfl (by omega)) ?_
     refine Wl.p (iB rfl rfl (by omega)) ?_
     refine Wl.ga 8 [] ?_
     have es:((w[((i:Nat):Int).toNat]?.getD default).v - (c) % 4294967296 - o+18446744073709551616) % 4294967296=((w[((i:Nat):Int).toNat]?.getD default).v - (c) % 4294967296 - o+4294967296*1):=by omega
     have ec:((w[((i:Nat):Int).toNat]?.getD default).v - (c) % 4294967296 - o+18446744073709551616) / 4294967296 % 2=1:=by omega
     refine Ar.re 8 rfl (show _=Value.int .u64 1 by rw [ec]) ?_
     refine Ar.reH 0 (Row 215 (p++(w.set i (⟨((w[((i:Nat):Int).toNat]?.getD default).v - (c) % 4294967296 - o+4294967296*1)⟩:U32)++q)) junk) rfl (by rw [←es,Int.toNat_natCast]) ?_
     refine aH ((i+1,(c) / 4294967296,1,w.set i (⟨((w[((i:Nat):Int).toNat]?.getD default).v - (c) % 4294967296 - o+4294967296*1)⟩:U32))) ?_ ?_
     · exact ⟨by omega,by rw [List.length_set];exact hwn,bT hdw _ (by omega),by omega,by omega,by decide,by decide,by intro _;omega,fB hdrop _,jA (c':=(c)) (b:=o) (b':=1) (by omega) hval (by rw [z,Int.zero_mul,Int.add_zero]) (by rw [←ex])⟩
     show u.length - (i+1)<u.length - i
     omega
   refine Wc.gl 33 [1,0] ?_
   refine Wl.p (Qy.indexAddr T.sl123 rfl rfl (by omega)) ?_
   refine Wl.p (eN 0 T.one215 rfl rfl (by omega)) ?_
   refine Wl.p (aI rfl T.u214 rfl (by omega)) ?_
   refine aA 1 [] ?_
   refine Wl.p (iZ rfl rfl (by omega)) ?_
   refine Wl.p (dA rfl rfl (by omega)) ?_
   refine aA 1 [] ?_
   refine Wl.p (dA rfl rfl (by omega)) ?_
   refine Wl.gl 6 [] ?_
   refine Wl.p (bI rfl rfl (by omega)) ?_
   refine Wl.gl 8 [] ?_
   refine Wl.p (bX rfl T.u215 rfl (by omega)) ?_
   refine Wl.p (Qy.indexAddr T.sl123 rfl rfl (by omega)) ?_
   refine jZ 0 T.size215 rfl rfl rfl (by omega) ?_
   refine Wl.gl 4 [] ?_
   refine Wl.p (bI rfl rfl (by omega)) ?_
   refine Wl.p (iB rfl rfl (by omega)) ?_
   refine Wl.ga 8 [] ?_
   have es:((w[((i:Nat):Int).toNat]?.getD default).v - (c) % 4294967296 - o)=((w[((i:Nat):Int).toNat]?.getD default).v - (c) % 4294967296 - o+4294967296*0):=by omega
   have ec:((w[((i:Nat):Int).toNat]?.getD default).v - (c) % 4294967296 - o) / 4294967296 % 2=0:=by omega
   refine Ar.re 8 rfl (show _=Value.int .u64 0 by rw [ec]) ?_
   refine Ar.reH 0 (Row 215 (p++(w.set i (⟨((w[((i:Nat):Int).toNat]?.getD default).v - (c) % 4294967296 - o+4294967296*0)⟩:U32)++q)) junk) rfl (by rw [←es,Int.toNat_natCast]) ?_
   refine aH ((i+1,(c) / 4294967296,0,w.set i (⟨((w[((i:Nat):Int).toNat]?.getD default).v - (c) % 4294967296 - o+4294967296*0)⟩:U32))) ?_ ?_
   · exact ⟨by omega,by rw [List.length_set];exact hwn,bT hdw _ (by omega),by omega,by omega,by decide,by decide,by intro _;omega,fB hdrop _,jA (c':=(c)) (b:=o) (b':=0) (by omega) hval (by rw [z,Int.zero_mul,Int.add_zero]) (by rw [←ex])⟩
   show u.length - (i+1)<u.length - i
   omega
 have hii:i=u.length:=by omega
 subst hii
 have hc:=hcz (by omega)
 subst hc
 refine Wc.ga 20 [0] ?_
 refine Ar.p1 [0] ?_
 rw [aQ (Nat.le_refl _),aQ (by omega),aQ (by omega),Int.add_zero] at hval
 exact ⟨w,o,rfl,rfl,rfl,by omega,hwn,hdw,hval⟩
end
theorem aLI {u v:List U32} {m:Nat} (hu:u.length=m+3) (hv:v.length=m+2) (du:Lims u) (dv:Lims v) (h:aB u<4294967296*aB v):lg u (m+2)*4294967296+lg u (m+1)<lg v (m+1)*4294967296+4294967296:=by
 have e1:=top3 hu
 have e2:=aLC hv
 have e3:=gH dv (show m≤v.length by omega)
 have e4:=gH du (show m≤u.length by omega)
 have a0:=dL dv m
 have b0:=dL du m
 have hp:=gG m
 generalize lg u (m+2)*4294967296+lg u (m+1)=high at *
 generalize lg v (m+1)=v1 at *
 generalize lg v m=v0 at *
 generalize lg u m=u0 at *
 refine Int.lt_of_mul_lt_mul_left (a:=pb m*4294967296) ?_ (by omega)
 have f1:=Int.mul_le_mul_of_nonneg_left (show v0+4294967296*v1+1≤v1*4294967296+4294967296 by omega) (Int.le_of_lt hp)
 have f2:=Int.mul_nonneg (Int.le_of_lt hp) b0.1
 rw [Int.mul_add,Int.mul_one] at f1
 rw [Int.mul_add,←Int.mul_assoc] at e1
 have f3:pb m*4294967296*(v1*4294967296+4294967296)=4294967296*(pb m*(v1*4294967296+4294967296)):=by rw [Int.mul_comm (pb m) 4294967296,Int.mul_assoc]
 rw [f3]
 omega
section
attribute [local irreducible] aB pb bL
theorem c251 (G:Imm) (b:Nat) (p u q:List U32) (junk:List Value) (cw:Nat) (v:Option Addr) (cv:Nat) (lv:List U32) (m:Nat) (hv:Arr G v lv) (du:Lims u) (dv:Lims lv) (h1:u.length≤1073741824) (hu:u.length=m+3) (hl:lv.length=m+2) (htop:2147483648≤lg lv (m+1)) (hlt:aB u<4294967296*aB lv) :
 Does Tryz.prog 251 [.slice (some ⟨b,p.length,none⟩) u.length cw,.slice v lv.length cv] G [(0,some b,Row 215 (p++(u++q)) junk)] (fun r G' Ho=>∃ (w:List U32) (g:Int),r=.int .u32 g∧Ho=[(0,some b,Row 215 (p++(w++q)) junk)]∧G'=G∧0≤g∧g<4294967296∧w.length=u.length∧Lims w∧aB w=aB u - g*aB lv∧aB w<aB lv):=by
 have hU2:=dL du (m+2)
 have hU1:=dL du (m+1)
 have hU0:=dL du m
 have hV1:=dL dv (m+1)
 have hV0:=dL dv m
 have eu2:(u[((lv.length:Nat):Int).toNat]?.getD default).v=lg u (m+2):=by unfold lg;rw [hl]
 have eu1:(u[(((lv.length:Nat):Int) - 1).toNat]?.getD default).v=lg u (m+1):=by unfold lg;rw [show (((lv.length:Nat):Int) - 1).toNat=((m+1:Nat):Int).toNat by omega]
 have eu0:(u[(((lv.length:Nat):Int) - 2).toNat]?.getD default).v=lg u m:=by unfold lg;rw [show (((lv.length:Nat):Int) - 2).toNat=((m:Nat):Int).toNat by omega]
 have ev1:(lv[(((lv.length:Nat):Int) - 1).toNat]?.getD default).v=lg lv (m+1):=by unfold lg;rw [show (((lv.length:Nat):Int) - 1).toNat=((m+1:Nat):Int).toNat by omega]
 have ev0:(lv[(((lv.length:Nat):Int) - 2).toNat]?.getD default).v=lg lv m:=by unfold lg;rw [show (((lv.length:Nat):Int) - 2).toNat=((m:Nat):Int).toNat by omega]
 refine D0 Tryz.func251 Tryz.ntmps251 fun w=>?_
 have hp1:0<lg lv (m+1):=by omega
 obtain ⟨high,hhigh⟩:∃ high,high=lg u (m+2)*4294967296+lg u (m+1):=⟨_,rfl⟩
 obtain ⟨hk1,hk2,hk3,hk4,hk5⟩:=aLD hu hl du dv hhigh hp1 rfl rfl
 have hq:=Int.ediv_le_self (lg lv (m+1)) (show 0≤high by omega)
 have hVm:0<aB lv:=by
  have:=aLC hl
  have h3:=gH dv (show m≤lv.length by omega)
  have h4:=Int.mul_pos (gG m) (show 0<lg lv m+4294967296*lg lv (m+1) by omega)
  omega
 have hUp:aB u<4294967296*aB lv:=hlt
 have hbrk:high<lg lv (m+1)*4294967296+4294967296:=hhigh▸aLI hu hl du dv hlt
 refine Wc.gc 5 [] ?_
 refine Wc.scope ?_
 refine Wc.gc 8 [] ?_
 refine aN [0] [] T.mixed [[0],[1]] ?_
 refine Gm.u 2 [] rfl (Qy.indexAddr T.sl123 rfl rfl (by omega)) ?_
 refine Gm.u 3 [0] rfl (eN 0 T.one215 rfl rfl (by omega)) ?_
 refine Gm.u 4 [] rfl (aI rfl T.u214 rfl (by omega)) ?_
 refine Gm.u 5 [] rfl (mO rfl rfl (by omega)) ?_
 refine Gm.r [[6],[7],[8]] ?_
 refine Gm.u 9 [] rfl (Qy.indexAddr T.sl123 rfl rfl (by omega)) ?_
 refine Gm.u 10 [0] rfl (eN 0 T.one215 rfl rfl (by omega)) ?_
 refine Gm.u 11 [] rfl (aI rfl T.u214 rfl (by omega)) ?_
 refine Gm.u 12 [] rfl (pP rfl rfl (by omega) (by omega)) ?_
 refine Gm.r [[13]] ?_
 refine Gm.fin ?_
 refine Ar.next ?_
 refine eY (ι:=Int×Int) (fun (g,r)=>([(0,.slice (some ⟨b,p.length,none⟩) u.length cw),(1,.slice v lv.length cv),(5,.int .i64 (lv.length:Int)),(7,.int .u64 g),(8,.int .u64 r),(4,.int .u32 0)],[(0,some b,Row 215 (p++(u++q)) junk)])) (fun (g,r)=>g*lg lv (m+1)+r=high∧0≤g∧g≤18446744073709551615∧0≤r∧r<4294967296∧aB u<(g+1)*aB lv) ?_ fun ⟨g,r⟩=>fun (hk:g*lg lv (m+1)+r=high∧0≤g∧g≤18446744073709551615∧0≤r∧r<4294967296∧aB u<(g+1)*aB lv)=>?_
 · refine aN [0] [] T.mixed [[0],[1],[2],[3]] ?_
   refine Gm.at (α:=U32) 4 T.sl123 ?_
   refine gO 5 [0] 0 T.one215 ?_
   refine Gm.u 6 [] rfl (aI rfl T.u214 rfl (by omega)) ?_
   refine Gm.u 7 [] rfl (gW rfl rfl (by omega)) ?_
   refine Gm.r [[8],[9],[10],[11]] ?_
   refine Gm.at (α:=U32) 12 T.sl123 ?_
   refine gO 13 [0] 0 T.one215 ?_
   refine Gm.u 14 [] rfl (aI rfl T.u214 rfl (by omega)) ?_
   refine Gm.u 15 [] rfl (cO rfl rfl (by omega)) ?_
   refine Gm.r [[16],[17]] ?_
   refine Gm.fin ?_
   refine Ar.re 7 rfl (show _=Value.int .u64 (high / lg lv (m+1)) by rw [eu2,eu1,ev1,hhigh]) ?_
   refine Ar.re 8 rfl (show _=Value.int .u64 (high % lg lv (m+1)) by rw [eu2,eu1,ev1,hhigh]) ?_
   refine Ar.mt ((high / lg lv (m+1),high % lg lv (m+1))) ?_
   exact ⟨hk1,hk2,by omega,hk3,by omega,hk5⟩
 obtain ⟨hg1,hg2,hg3,hr1,hr2,hgu⟩:=hk
 clear hk1 hk2 hk3 hk4 hk5 hq
 refine Wc.gc 3 [] ?_
 refine eY (ι:=Int) (fun gg=>([(0,.slice (some ⟨b,p.length,none⟩) u.length cw),(1,.slice v lv.length cv),(5,.int .i64 (lv.length:Int)),(7,.int .u64 gg),(4,.int .u32 0)],[(0,some b,Row 215 (p++(u++q)) junk)])) (fun gg=>0≤gg∧gg<4294967296∧aB u<(gg+1)*aB lv∧(gg - 1)*aB lv≤aB u) ?_ fun gg=>fun (hk:0≤gg∧gg<4294967296∧aB u<(gg+1)*aB lv∧(gg - 1)*aB lv≤aB u)=>?_
 · refine Wc.block ?_
   refine Wc.lp (ι:=Int×Int) (fun (g,r)=>([(7,.int .u64 g),(8,.int .u64 r),(0,.slice (some (Addr.mk b (List.length p) none)) (List.length u) cw),(1,.slice v (List.length lv) cv),(5,.int .i64 (lv.length:Int)),(4,.int .u32 0)],[(0,some b,Row 215 (p++(u++q)) junk)])) (fun (g,r)=>g*lg lv (m+1)+r=high∧0≤g∧g≤18446744073709551615∧0≤r∧r<4294967296∧aB u<(g+1)*aB lv) (fun (g,r)=>(4294967296 - r).toNat) ((g,r)) (⟨hg1,hg2,hg3,hr1,hr2,hgu⟩) fun ⟨g,r⟩=>fun (hk:g*lg lv (m+1)+r=high∧0≤g∧g≤18446744073709551615∧0≤r∧r<4294967296∧aB u<(g+1)*aB lv)=>?_
   clear hg1 hg2 hg3 hr1 hr2 hgu
   obtain ⟨hg1,hg2,hg3,hr1,hr2,hgu⟩:=hk
   have dec:4294967296≤g∨r*4294967296+lg u m<g*lg lv m→1≤g∧(g - 1)*lg lv (m+1)+(r+lg lv (m+1))=high∧aB u<(g - 1+1)*aB lv:=fun hd=>by
    have hg0:1≤g:=by
     rcases hd with hd | hd
     · omega
     rcases (show g=0∨1≤g by omega) with h | h
     · rw [h,Int.zero_mul] at hd;omega
     exact h
    refine ⟨hg0,by rw [Int.sub_mul,Int.one_mul];omega,?_⟩
    rw [show g - 1+1=g by omega]
    rcases hd with hd | hd
    · have:=Int.mul_le_mul_of_nonneg_right hd (Int.le_of_lt hVm)
      omega
    exact aRX hu hl du dv hhigh hg1 hg2 hd
   have brk:(g - 1)*lg lv (m+1)+(r+lg lv (m+1))=high→aB u<(g - 1+1)*aB lv→4294967296≤r+lg lv (m+1)→1≤g→0≤g - 1∧g - 1<4294967296∧aB u<(g - 1+1)*aB lv∧(g - 1 - 1)*aB lv≤aB u:=fun h h2 h3 h4=>by
    have hlt':=aLB h h3 hp1 hbrk
    have hm0:=lN ⟨(show 0≤g - 1 by omega),hlt'⟩ hV0
    exact ⟨by omega,hlt',h2,aLE hu hl du dv hhigh h ⟨by omega,hlt'⟩ (by omega) (by omega)⟩
   by_cases hgb:g<4294967296
   · have hm0:=lN ⟨hg2,hgb⟩ hV0
     have hm:0≤g*(lv[(((lv.length:Nat):Int) - 2).toNat]?.getD default).v∧g*(lv[(((lv.length:Nat):Int) - 2).toNat]?.getD default).v≤18446744073709551615:=by rw [ev0];omega
     by_cases hcond:r*4294967296+lg u m<g*lg lv m
     · obtain ⟨hg0,hnx,hnu⟩:=dec (.inr hcond)
       have hcond':r*4294967296+(u[(((lv.length:Nat):Int) - 2).toNat]?.getD default).v<g*(lv[(((lv.length:Nat):Int) - 2).toNat]?.getD default).v:=by rw [eu0,ev0];exact hcond
       refine Wc.gc 2 [] ?_
       refine aN [0] [] T.mixed [[0]] ?_
       refine Gm.u 1 [] rfl (bI rfl rfl (by omega)) ?_
       refine Gm.r [[2],[3]] ?_
       refine uA 45 rfl (by first | assumption | omega) ?_
       refine Gm.r [[4],[5],[6],[7]] ?_
       refine Gm.y 8 [] rfl (Qy.at (α:=U32) T.sl123 rfl rfl ‹_› (by omega)) ?_
       refine Gm.y 9 [0] rfl (aL T.one215 rfl (Arr.cell ‹_› (by omega) 0 rfl rfl)) ?_
       refine Gm.y 10 [] rfl (aI rfl T.u214 rfl (by omega)) ?_
       refine Gm.y 11 [] rfl (fW rfl rfl (by first | assumption | omega)) ?_
       refine Gm.r [[12]] ?_
       refine Gm.y 13 [] rfl (mO rfl rfl (by omega)) ?_
       refine Gm.r [[14],[15],[16]] ?_
       refine Gm.y 17 [] rfl (Qy.indexAddr T.sl123 rfl rfl (by omega)) ?_
       refine Gm.y 18 [0] rfl (eN 0 T.one215 rfl rfl (by omega)) ?_
       refine Gm.y 19 [] rfl (aI rfl T.u214 rfl (by omega)) ?_
       refine Gm.y 20 [] rfl (pP rfl rfl (by omega) (by omega)) ?_
       refine Gm.r [[21],[22]] ?_
       refine Gm.fin ?_
       refine Ar.gl 8 [1] ?_
       refine Wl.p (dA rfl rfl (by omega)) ?_
       refine Wl.gl 9 [] ?_
       refine Wl.at (α:=U32) T.sl123 ?_
       refine bM 0 T.one215 ?_
       refine Wl.p (aI rfl T.u214 rfl (by omega)) ?_
       refine Wl.p (bV rfl rfl (by omega)) ?_
       refine Wl.gl 6 [] ?_
       refine Wl.p (bI rfl rfl (by omega)) ?_
       refine Wl.gc 3 [] ?_
       refine Wc.i (fun hc1=>?_) fun hc1=>?_
       refine Wc.ga 4 [] ?_
       rotate_left
       refine Wc.ga 2 [] ?_
       rotate_left
       · refine Ar.re 7 rfl rfl ?_
         refine Ar.mt (g - 1) ?_
         exact brk hnx hnu (by rw [←ev1];omega) hg0
       refine Ar.re 8 rfl (show _=Value.int .u64 (r+lg lv (m+1)) by rw [ev1]) ?_
       refine aH ((g - 1,r+lg lv (m+1))) ?_ ?_
       · exact ⟨hnx,by omega,by omega,by omega,by rw [←ev1];omega,hnu⟩
       show (4294967296 - (r+lg lv (m+1))).toNat<(4294967296 - r).toNat
       omega
     have hcond':¬r*4294967296+(u[(((lv.length:Nat):Int) - 2).toNat]?.getD default).v<g*(lv[(((lv.length:Nat):Int) - 2).toNat]?.getD default).v:=by rw [eu0,ev0];exact hcond
     refine Wc.gc 2 [] ?_
     refine aN [0] [] T.mixed [[0]] ?_
     refine Gm.u 1 [] rfl (bI rfl rfl (by omega)) ?_
     refine Gm.r [[2],[3]] ?_
     refine uA 45 rfl (by first | assumption | omega) ?_
     refine Gm.r [[4],[5],[6],[7]] ?_
     refine Gm.y 8 [] rfl (Qy.at (α:=U32) T.sl123 rfl rfl ‹_› (by omega)) ?_
     refine Gm.y 9 [0] rfl (aL T.one215 rfl (Arr.cell ‹_› (by omega) 0 rfl rfl)) ?_
     refine Gm.y 10 [] rfl (aI rfl T.u214 rfl (by omega)) ?_
     refine Gm.y 11 [] rfl (fW rfl rfl (by first | assumption | omega)) ?_
     refine Gm.r [[12]] ?_
     refine Gm.y 13 [] rfl (mO rfl rfl (by omega)) ?_
     refine Gm.r [[14],[15],[16]] ?_
     refine Gm.y 17 [] rfl (Qy.indexAddr T.sl123 rfl rfl (by omega)) ?_
     refine Gm.y 18 [0] rfl (eN 0 T.one215 rfl rfl (by omega)) ?_
     refine Gm.y 19 [] rfl (aI rfl T.u214 rfl (by omega)) ?_
     refine Gm.y 20 [] rfl (pP rfl rfl (by omega) (by omega)) ?_
     refine Gm.r [[21],[22]] ?_
     refine Gm.fin ?_
     refine Ar.ga 6 [0] ?_
     refine Ar.mt (g) ?_
     exact ⟨hg2,hgb,hgu,aLE hu hl du dv hhigh hg1 ⟨hg2,hgb⟩ (by omega) (by omega)⟩
   obtain ⟨hg0,hnx,hnu⟩:=dec (.inl (by omega))
   refine Wc.gc 2 [] ?_
   refine aN [0] [] T.mixed [[0]] ?_
   refine Gm.u 1 [] rfl (bI rfl rfl (by omega)) ?_
   refine Gm.r [[2],[3]] ?_
   refine rA 45 rfl (by first | assumption | omega) ?_
   refine Gm.r [[4],[5],[6],[7],[8],[9],[10],[11],[12],[13],[14],[15],[16],[17],[18],[19],[20],[21],[22]] ?_
   refine Gm.fin ?_
   refine Ar.gl 8 [1] ?_
   refine Wl.p (dA rfl rfl (by omega)) ?_
   refine Wl.gl 9 [] ?_
   refine Wl.at (α:=U32) T.sl123 ?_
   refine bM 0 T.one215 ?_
   refine Wl.p (aI rfl T.u214 rfl (by omega)) ?_
   refine Wl.p (bV rfl rfl (by omega)) ?_
   refine Wl.gl 6 [] ?_
   refine Wl.p (bI rfl rfl (by omega)) ?_
   refine Wl.gc 3 [] ?_
   refine Wc.i (fun hc1=>?_) fun hc1=>?_
   refine Wc.ga 4 [] ?_
   rotate_left
   refine Wc.ga 2 [] ?_
   rotate_left
   · refine Ar.re 7 rfl rfl ?_
     refine Ar.mt (g - 1) ?_
     exact brk hnx hnu (by rw [←ev1];omega) hg0
   refine Ar.re 8 rfl (show _=Value.int .u64 (r+lg lv (m+1)) by rw [ev1]) ?_
   refine aH ((g - 1,r+lg lv (m+1))) ?_ ?_
   · exact ⟨hnx,by omega,by omega,by omega,by rw [←ev1];omega,hnu⟩
   show (4294967296 - (r+lg lv (m+1))).toNat<(4294967296 - r).toNat
   omega
 clear hg1 hg2 hg3 hr1 hr2 hgu
 obtain ⟨hg1,hg2,hg3,hg4⟩:=hk
 refine Wc.gl 6 [] ?_
 refine Wl.k 0 rfl (c269 _ b p u q junk cw v cv lv gg hv du dv h1 (by omega) ⟨hg1,hg2⟩) fun r1 G1 Ho1 hle1 hp=>?_
 obtain ⟨lw1,lo1,rfl,rfl,rfl,hlo1,hln1,hld1,hlv1⟩:=hp
 have hfew:=eK hld1
 have hnn:=bS hld1
 rcases hlo1 with hlo1 | hlo1
 · subst hlo1
   rw [Int.mul_zero,Int.sub_zero] at hlv1
   refine Wl.p (aW rfl) ?_
   refine Wl.gl 6 [1] ?_
   refine Wl.p (bX rfl T.u215 rfl (by omega)) ?_
   refine Wl.ga 5 [] ?_
   refine iW ?_
   refine Ar.p1 [0] ?_
   refine ⟨lw1,gg,rfl,rfl,rfl,hg1,hg2,hln1,hld1,hlv1.symm,?_⟩
   rw [Int.add_mul,Int.one_mul] at hg3
   omega
 subst hlo1
 rw [Int.mul_one,←hln1] at hlv1
 have hover:aB u<gg*aB lv:=by omega
 have hgp:1≤gg:=by
  rcases (show gg=0∨1≤gg by omega) with h | h
  · rw [h,Int.zero_mul] at hover
    have:=bS du
    omega
  exact h
 refine Wl.p (aW rfl) ?_
 refine Wl.gl 8 [0] ?_
 refine Wl.p (dA rfl rfl (by omega)) ?_
 refine Wl.gc 17 [] ?_
 refine Wc.lp (ι:=Nat×Int×List U32) (fun (i,c,z)=>([(89,.int .i64 (i:Int)),(9,.int .u64 c),(88,.int .i64 (u.length:Int)),(7,.int .u64 (gg - 1)),(0,.slice (some (Addr.mk b (List.length p) none)) (List.length u) cw),(1,.slice v (List.length lv) cv),(5,.int .i64 (lv.length:Int)),(4,.int .u32 0)],[(0,some b,Row 215 (p++(z++q)) junk)])) (fun (i,c,z)=>i≤lw1.length∧z.length=lw1.length∧Lims z∧0≤c∧c≤1∧z.drop i=lw1.drop i∧aB (lw1.take i)+aB (lv.take i)=aB (z.take i)+pb i*c) (fun (i,c,z)=>lw1.length - i) ((0,0,lw1)) (⟨Nat.zero_le _,rfl,hld1,by decide,by decide,rfl,by rw [List.take_zero,List.take_zero,bW,Int.mul_zero]⟩) fun ⟨i,c,z⟩=>fun hk=>?_
 obtain ⟨hi,hzn,hzd,hc0,hc1,hdrop,hval⟩:=hk
 rcases Nat.lt_or_ge i lw1.length with hia | hia
 · have hx:0≤(z[((i:Nat):Int).toNat]?.getD default).v∧(z[((i:Nat):Int).toNat]?.getD default).v<4294967296:=jY hzd (by omega)
   have ex:(z[((i:Nat):Int).toNat]?.getD default).v=lg lw1 i:=aFN hdrop
   rcases Nat.lt_or_ge i lv.length with hib | hib
   · have hy:0≤(lv[((i:Nat):Int).toNat]?.getD default).v∧(lv[((i:Nat):Int).toNat]?.getD default).v<4294967296:=jY dv hib
     refine Wc.gl 22 [1] ?_
     refine Wl.p (Qy.indexAddr T.sl123 rfl rfl (by omega)) ?_
     refine Wl.p (eN 0 T.one215 rfl rfl (by omega)) ?_
     refine Wl.p (aI rfl T.u214 rfl (by omega)) ?_
     refine Wl.p (bV rfl rfl (by omega)) ?_
     refine Wl.gl 16 [1] ?_
     refine Wl.at (α:=U32) T.sl123 ?_
     refine bM 0 T.one215 ?_
     refine Wl.p (aI rfl T.u214 rfl (by omega)) ?_
     refine Wl.p (bV rfl rfl (by omega)) ?_
     refine Wl.gl 8 [] ?_
     refine Wl.p (cF rfl T.u215 rfl) ?_
     refine Wl.p (Qy.indexAddr T.sl123 rfl rfl (by omega)) ?_
     refine jZ 0 T.size215 rfl rfl rfl (by omega) ?_
     refine Wl.gl 4 [] ?_
     refine Wl.p (bI rfl rfl (by omega)) ?_
     refine Wl.ga 8 [] ?_
     refine Ar.reH 0 (Row 215 (p++(z.set i (⟨(c+(z[((i:Nat):Int).toNat]?.getD default).v+(lv[((i:Nat):Int).toNat]?.getD default).v) % 4294967296⟩:U32)++q)) junk) rfl (by rw [Int.toNat_natCast]) ?_
     refine aH ((i+1,(c+(z[((i:Nat):Int).toNat]?.getD default).v+(lv[((i:Nat):Int).toNat]?.getD default).v) / 4294967296,z.set i (⟨(c+(z[((i:Nat):Int).toNat]?.getD default).v+(lv[((i:Nat):Int).toNat]?.getD default).v) % 4294967296⟩:U32))) ?_ ?_
     · exact ⟨by omega,by rw [List.length_set];exact hzn,bT hzd _ (nW _),by omega,by omega,fB hdrop _,pQ (by omega) hval (by rw [ex];rfl)⟩
     show lw1.length - (i+1)<lw1.length - i
     omega
   have hz0:=mP hib
   refine Wc.gl 22 [1] ?_
   refine Wl.p (Qy.indexAddr T.sl123 rfl rfl (by omega)) ?_
   refine Wl.p (eN 0 T.one215 rfl rfl (by omega)) ?_
   refine Wl.p (aI rfl T.u214 rfl (by omega)) ?_
   refine Wl.p (bV rfl rfl (by omega)) ?_
   refine Wl.gl 19 [0] ?_
   refine Wl.p (cF rfl T.u215 rfl) ?_
   refine Wl.p (Qy.indexAddr T.sl123 rfl rfl (by omega)) ?_
   refine jZ 0 T.size215 rfl rfl rfl (by omega) ?_
   refine Wl.gl 4 [] ?_
   refine Wl.p (bI rfl rfl (by omega)) ?_
   refine Wl.ga 8 [] ?_
   refine Ar.reH 0 (Row 215 (p++(z.set i (⟨(c+(z[((i:Nat):Int).toNat]?.getD default).v) % 4294967296⟩:U32)++q)) junk) rfl (by rw [Int.toNat_natCast]) ?_
   refine aH ((i+1,(c+(z[((i:Nat):Int).toNat]?.getD default).v) / 4294967296,z.set i (⟨(c+(z[((i:Nat):Int).toNat]?.getD default).v) % 4294967296⟩:U32))) ?_ ?_
   · exact ⟨by omega,by rw [List.length_set];exact hzn,bT hzd _ (nW _),by omega,by omega,fB hdrop _,pQ (by omega) hval (by rw [ex,hz0,Int.add_zero])⟩
   show lw1.length - (i+1)<lw1.length - i
   omega
 have hii:i=lw1.length:=by omega
 subst hii
 have hvl:=eK dv
 have hpl:=xN (show lv.length≤lw1.length by omega)
 have hback:=aLF (g:=gg) (u:=u) (n:=lw1.length) (by omega) hg4 hover rfl hzn (by omega) (by omega) hzd ⟨hc0,hc1⟩ hval
 refine Wc.gl 15 [0] ?_
 refine Wl.p (bX rfl T.u215 rfl (by omega)) ?_
 refine Wl.ga 4 [] ?_
 refine iW ?_
 refine Ar.p1 [0] ?_
 refine ⟨z,gg - 1,rfl,rfl,rfl,by omega,by omega,by omega,hzd,hback,?_⟩
 rw [Int.sub_mul,Int.one_mul] at hback
 omega
end
theorem gY {s:Nat} (hs:s≤32):∃ Q:Int,((2 ^ s:Nat):Int)*Q=4294967296∧0<Q∧0<((2 ^ s:Nat):Int):=by
 refine ⟨((2 ^ (32 - s):Nat):Int),?_,?_,?_⟩
 · rw [←Int.natCast_mul,←Nat.pow_add,Nat.add_sub_cancel' hs];decide
 · have:0<2 ^ (32 - s):=Nat.pow_pos (by decide)
   omega
 have:0<2 ^ s:=Nat.pow_pos (by decide)
 omega
theorem aIB {X:Int} {s:Nat} (hs:s≤32) (hX:0≤X∧X<4294967296):(X*((2 ^ s:Nat):Int)) % 4294967296 % ((2 ^ s:Nat):Int)=0∧0≤X*((2 ^ s:Nat):Int) / 4294967296∧X*((2 ^ s:Nat):Int) / 4294967296<((2 ^ s:Nat):Int)∧0≤X*((2 ^ s:Nat):Int)∧X*((2 ^ s:Nat):Int)<18446744073709551616:=by
 obtain ⟨Q,h1,h2,h3⟩:=gY hs
 generalize ((2 ^ s:Nat):Int)=P at *
 have hn:=Int.mul_nonneg hX.1 (Int.le_of_lt h3)
 have hlt:=Int.mul_lt_mul_of_pos_right hX.2 h3
 have hP:P≤4294967296:=by
  have:=Int.mul_le_mul_of_nonneg_left (show 1≤Q by omega) (Int.le_of_lt h3)
  omega
 refine ⟨?_,Int.ediv_nonneg hn (by decide),Int.ediv_lt_of_lt_mul (by decide) (by rw [Int.mul_comm P];exact hlt),hn,by omega⟩
 rw [Int.emod_emod_of_dvd _ ⟨Q,h1.symm⟩]
 exact Int.mul_emod_left X P
theorem aLJ {la r:List U32} {i d:Nat} {P hi lo:Int} (hk:i+d+1<r.length) (hz:lg r (i+d+1)=0) (hv:aB r=pb d*P*aB (la.take i)) (hlo:lo=lg r (i+d)+lg la i*P % 4294967296) (hhi:hi=lg la i*P / 4294967296) :
 aB ((r.set (i+d) ⟨lo⟩).set (i+d+1) ⟨hi⟩)=pb d*P*aB (la.take (i+1)):=by
 rw [kN _ _ _ (by rw [List.length_set];exact hk),kN r _ _ (by omega),gX (by omega),hz,bY,hv,hlo,hhi,fP,aDT]
 have h1:=zA (pb i*pb d) (lg la i*P)
 show pb d*P*aB (la.take i)+pb i*pb d*(lg r (i+d)+lg la i*P % 4294967296 - lg r (i+d))+4294967296*(pb i*pb d)*(lg la i*P / 4294967296 - 0)=_
 have e1:lg r (i+d)+lg la i*P % 4294967296 - lg r (i+d)=lg la i*P % 4294967296:=by omega
 have e2:pb d*P*(pb i*lg la i)=pb i*pb d*(lg la i*P):=by
  rw [Int.mul_comm (pb i) (pb d),Int.mul_assoc,Int.mul_assoc,Int.mul_comm (lg la i) P,Int.mul_left_comm P]
 rw [e1,Int.sub_zero,Int.mul_add,e2,←h1]
 omega
theorem aBD {A0 A1:Int} {s:Nat} (hs:s≤32) (h0:0≤A0∧A0<4294967296) (h1:0≤A1∧A1<4294967296):((2 ^ s:Nat):Int)*(((A1*4294967296+A0) / ((2 ^ s:Nat):Int)) % 4294967296)=4294967296*(A1 % ((2 ^ s:Nat):Int))+A0 - A0 % ((2 ^ s:Nat):Int):=by
 obtain ⟨Q,hQ,hQ0,hP⟩:=gY hs
 generalize ((2 ^ s:Nat):Int)=P at *
 have e0:=Int.emod_add_mul_ediv A0 P
 have e1:=Int.emod_add_mul_ediv A1 P
 have n0:=Int.emod_nonneg A0 (Int.ne_of_gt hP)
 have l0:=Int.emod_lt_of_pos A0 hP
 have n1:=Int.emod_nonneg A1 (Int.ne_of_gt hP)
 have l1:=Int.emod_lt_of_pos A1 hP
 have q0:=Int.ediv_nonneg h0.1 (Int.le_of_lt hP)
 have q0':A0 / P<Q:=Int.ediv_lt_of_lt_mul hP (by rw [Int.mul_comm];omega)
 generalize A0 % P=r0 at *
 generalize A1 % P=r1 at *
 generalize A0 / P=y0 at *
 generalize A1 / P=y1 at *
 have e2:A1*4294967296+A0=r0+P*(A1*Q+y0):=by
  rw [Int.mul_add,Int.mul_left_comm P,hQ];omega
 have e3:(A1*4294967296+A0) / P=A1*Q+y0:=by
  rw [e2,Int.add_mul_ediv_left _ _ (Int.ne_of_gt hP),Int.ediv_eq_zero_of_lt n0 l0,Int.zero_add]
 have e4:A1*Q+y0=r1*Q+y0+4294967296*y1:=by
  rw [←e1,Int.add_mul,←hQ,Int.mul_right_comm P Q y1,Int.mul_assoc P y1 Q];omega
 have f1:=Int.mul_nonneg n1 (Int.le_of_lt hQ0)
 have f2:=Int.mul_le_mul_of_nonneg_right (show r1+1≤P by omega) (Int.le_of_lt hQ0)
 rw [Int.add_mul,Int.one_mul,hQ] at f2
 have e5:(A1*Q+y0) % 4294967296=r1*Q+y0:=by
  rw [e4,Int.add_mul_emod_self_left,Int.emod_eq_of_lt (by omega) (by omega)]
 rw [e3,e5,Int.mul_add,Int.mul_left_comm P r1 Q,hQ]
 omega
theorem aBE {m r:List U32} {i:Nat} {P out ρ:Int} (hi:i<r.length) (hv:P*aB (r.take i)+ρ=aB (m.take i)+pb i*(lg m i % P)) (ho:P*out=4294967296*(lg m (i+1) % P)+lg m i - lg m i % P) :
 P*aB ((r.set i ⟨out⟩).take (i+1))+ρ=aB (m.take (i+1))+pb (i+1)*(lg m (i+1) % P):=by
 rw [bY (r.set i _),bY m,oH hi,List.take_set_of_le (Nat.le_refl i),fP,Int.mul_add,Int.mul_left_comm P,ho,Int.mul_sub,Int.mul_add,Int.mul_left_comm (pb i) 4294967296]
 rw [Int.mul_assoc]
 omega
theorem aPQ {m r:List U32} {P:Int} (hP:0<P) (hn:r.length=m.length) (hv:P*aB (r.take m.length)+lg m 0 % P=aB (m.take m.length)+pb m.length*(lg m m.length % P)):aB r=aB m / P:=by
 rw [aQ (by omega),aQ (Nat.le_refl _),mP (Nat.le_refl _),Int.zero_emod,Int.mul_zero,Int.add_zero] at hv
 rw [←hv,Int.add_comm,Int.add_mul_ediv_left _ _ (Int.ne_of_gt hP),Int.ediv_eq_zero_of_lt (Int.emod_nonneg _ (Int.ne_of_gt hP)) (Int.emod_lt_of_pos _ hP),Int.zero_add]
theorem aLK {x y:Int} {s:Nat} (hs:s≤32) (hx:x<((2 ^ s:Nat):Int)) (h0:0≤x) (hy:0≤y∧y<4294967296) (hm:y % ((2 ^ s:Nat):Int)=0):0≤x+y∧x+y<4294967296:=by
 obtain ⟨Q,hQ,hQ0,hP⟩:=gY hs
 generalize ((2 ^ s:Nat):Int)=P at *
 refine ⟨by omega,?_⟩
 have h1:=Int.emod_add_mul_ediv y P
 rw [hm,Int.zero_add] at h1
 have h2:y / P<Q:=Int.ediv_lt_of_lt_mul hP (by rw [Int.mul_comm];omega)
 have h3:=Int.mul_le_mul_of_nonneg_left (show y / P+1≤Q by omega) (Int.le_of_lt hP)
 rw [Int.mul_add,Int.mul_one,hQ,h1] at h3
 omega
section
attribute [local irreducible] aB pb bL
theorem c250 (G:Imm) (a:Option Addr) (ca:Nat) (la:List U32) (d s:Nat) (ha:Arr G a la) (da:Lims la) (h1:la.length≤1073741824) (hs:s<32) (hd:d≤1000) :
 Does Tryz.prog 250 [.slice a la.length ca,.int .i64 ((32*d+s:Nat):Int)] G [] (fun v G' Ho=>∃ r,v=.tuple #[r,.int .i64 0]∧Nat32 G' r (pb d*((2 ^ s:Nat):Int)*aB la) (la.length+d+1)∧Ho=[]):=by
 refine D0 Tryz.func250 Tryz.ntmps250 fun w=>?_
 have ed:((32*d+s:Nat):Int) / 32=(d:Int):=by omega
 have es:((32*d+s:Nat):Int) % 32=(s:Int):=by omega
 have hP:0<((2 ^ s:Nat):Int):=(gY (by omega)).choose_spec.2.2
 refine Wc.gl 31 [0,0] ?_
 refine Wl.p (fN rfl rfl (by omega)) ?_
 refine aA 2 [] ?_
 refine Wl.make (α:=U32) 0 rfl T.sl123 T.el215 rfl rfl (by omega) (by omega) fun b1=>?_
 refine Wl.gl 6 [] ?_
 refine Wl.p (cO rfl rfl (by omega)) ?_
 refine Wl.gc 12 [] ?_
 obtain ⟨N,hN⟩:∃ N,N=la.length+d+1:=⟨_,rfl⟩
 have hM:((la.length:Int)+((32*d+s:Nat):Int) / 32+1).toNat=N:=by omega
 rw [hM]
 have hown:∀ r:List U32,r.length=N→OwnA (some ⟨b1,0,none⟩) N r []:=fun r hr=>.inr ⟨b1,rfl,by rw [hr];rfl,by omega,by simp only [maxLen];omega⟩
 refine Wc.re 6 rfl (show _=Value.slice (some ⟨b1,0,none⟩) (List.replicate N (default:U32)).length N by rw [List.length_replicate]) ?_
 refine Wc.re 7 rfl (show _=Value.int .i64 (s:Int) by rw [es]) ?_
 refine Wc.lp (ι:=Nat×List U32) (fun (i,r)=>([(26,.int .i64 (i:Int)),(6,.slice (some ⟨b1,0,none⟩) r.length N),(7,.int .i64 (↑s:Int)),(25,.int .i64 (la.length:Int)),(24,.slice a (List.length la) ca),(5,.int .i64 0),(4,.slice none 0 0),(1,.int .i64 (↑(32*d+s):Int))],[(0,some b1,Row 215 r [])])) (fun (i,r)=>i≤la.length∧r.length=N∧Lims r∧aB r=pb d*((2 ^ s:Nat):Int)*aB (la.take i)∧lg r (i+d)<((2 ^ s:Nat):Int)∧∀ k,i+d<k→lg r k=0) (fun (i,r)=>la.length - i) ((0,List.replicate N (default:U32))) (⟨Nat.zero_le _,List.length_replicate,fR N,by rw [List.take_zero,bW,Int.mul_zero];exact jK N,by rw [pS];exact hP,fun k _=>pS N k⟩) fun ⟨i,r⟩=>fun hk=>?_
 obtain ⟨hi,hrN,hdr,hv,hlow,hz⟩:=hk
 have hor:=hown r hrN
 rcases Nat.lt_or_ge i la.length with hia | hia
 · have hx:0≤(la[((i:Nat):Int).toNat]?.getD default).v∧(la[((i:Nat):Int).toNat]?.getD default).v<4294967296:=jY da hia
   have ekk:((i:Int)+((32*d+s:Nat):Int) / 32).toNat=i+d:=by omega
   have hpt:=aIB (s:=s) (by omega) hx
   refine Wc.gl 14 [1] ?_
   refine Wl.at (α:=U32) T.sl123 ?_
   refine bM 0 T.one215 ?_
   refine Wl.gl 7 [] ?_
   refine Wl.p (aI rfl T.u214 rfl (by omega)) ?_
   refine aA 1 [] ?_
   refine Wl.p (aPK rfl rfl (by omega) (by omega)) ?_
   refine Wl.gl 8 [] ?_
   refine Wl.p (fN rfl rfl (by omega)) ?_
   refine aA 1 [] ?_
   refine bR (α:=U32) T.sl123 ?_
   refine Wl.lo 0 0 T.one215 ?_
   refine aA 1 [] ?_
   refine Wl.p (cF rfl T.u215 rfl) ?_
   refine Wl.p (lG rfl rfl) ?_
   refine bR (α:=U32) T.sl123 ?_
   refine bG (z:=_) 0 T.size215 rfl rfl rfl ‹_› (by omega) rfl fun ho1=>?_
   refine Wl.gl 6 [] ?_
   refine Wl.p (fN rfl rfl (by omega)) ?_
   refine aA 2 [] ?_
   refine bR (α:=U32) T.sl123 ?_
   obtain ⟨r1,hr1⟩:∃ r1,r1=r.set (i+d) (⟨lg r (i+d)+(la[((i:Nat):Int).toNat]?.getD default).v*((2 ^ s:Nat):Int) % 4294967296⟩:U32):=⟨_,rfl⟩
   have hk0:=dL hdr (i+d)
   have hlo:bits BinOp.or IntKind.u32 (r[((i:Int)+((32*d+s:Nat):Int) / 32).toNat]?.getD default).v ((la[((i:Nat):Int).toNat]?.getD default).v*((2 ^ s:Nat):Int) % 4294967296)=lg r (i+d)+(la[((i:Nat):Int).toNat]?.getD default).v*((2 ^ s:Nat):Int) % 4294967296:=by
    rw [ekk]
    exact sH _ _ s ⟨hk0.1,hlow⟩ (nW _) (by omega) hpt.1
   have hr1N:r1.length=N:=by rw [hr1,List.length_set];exact hrN
   have hsum:=aLK (s:=s) (by omega) hlow hk0.1 (nW _) hpt.1
   have hd1:Lims r1:=by rw [hr1];exact bT hdr _ hsum
   have hz1:lg r1 (i+d+1)=0:=by rw [hr1,gX (by omega)];exact hz _ (by omega)
   have hor1:=hown r1 hr1N
   refine Wl.reH 0 (Row 215 r1 []) rfl ?_ ?_
   · show Row 215 (r.set ((i:Int)+((32*d+s:Nat):Int) / 32).toNat ⟨bits BinOp.or IntKind.u32 (r[((i:Int)+((32*d+s:Nat):Int) / 32).toNat]?.getD default).v ((la[((i:Nat):Int).toNat]?.getD default).v*((2 ^ s:Nat):Int) % 4294967296)⟩) []=_
     rw [hlo,ekk,hr1]
   skip
   refine Wl.p (pI (m:=(i:Int)+((32*d+s:Nat):Int) / 32+1) (c:=N) (xs:=r1) (junk:=[]) 0 0 T.one215 rfl rfl hor1 (by omega) rfl rfl) ?_
   refine aA 1 [] ?_
   refine Wl.p (bI rfl rfl (by omega)) ?_
   refine Wl.p (bX rfl T.u215 rfl (by omega)) ?_
   refine Wl.p (lG rfl rfl) ?_
   refine bR (α:=U32) T.sl123 ?_
   refine bG (z:=_) 0 T.size215 rfl rfl rfl ‹_› (by omega) rfl fun ho2=>?_
   refine Wl.ga 7 [] ?_
   have hhi:bits BinOp.or IntKind.u32 (r1[((i:Int)+((32*d+s:Nat):Int) / 32+1).toNat]?.getD default).v ((la[((i:Nat):Int).toNat]?.getD default).v*((2 ^ s:Nat):Int) / 4294967296)=(la[((i:Nat):Int).toNat]?.getD default).v*((2 ^ s:Nat):Int) / 4294967296:=by
    rw [show ((i:Int)+((32*d+s:Nat):Int) / 32+1).toNat=i+d+1 by omega,show (r1[i+d+1]?.getD default).v=0 by simpa only [lg,Int.toNat_natCast] using hz1]
    rw [sH 0 _ 0 (by decide) (by omega) (by decide) (Int.emod_one _),Int.zero_add]
   obtain ⟨r2,hr2⟩:∃ r2,r2=r1.set (i+d+1) (⟨(la[((i:Nat):Int).toNat]?.getD default).v*((2 ^ s:Nat):Int) / 4294967296⟩:U32):=⟨_,rfl⟩
   refine Ar.reH 0 (Row 215 r2 []) rfl ?_ ?_
   · show Row 215 (r1.set ((i:Int)+((32*d+s:Nat):Int) / 32+1).toNat ⟨bits BinOp.or IntKind.u32 (r1[((i:Int)+((32*d+s:Nat):Int) / 32+1).toNat]?.getD default).v ((la[((i:Nat):Int).toNat]?.getD default).v*((2 ^ s:Nat):Int) / 4294967296)⟩) []=_
     rw [hhi,show ((i:Int)+((32*d+s:Nat):Int) / 32+1).toNat=i+d+1 by omega,hr2]
   have hr2N:r2.length=N:=by rw [hr2,List.length_set];exact hr1N
   refine Ar.re 6 rfl (show _=Value.slice (some ⟨b1,0,none⟩) r2.length N by rw [hr2N,hrN]) ?_
   have hlt32:=(gY (s:=s) (by omega))
   refine aH ((i+1,r2)) ?_ ?_
   · refine ⟨by omega,hr2N,by rw [hr2];exact bT hd1 _ ⟨hpt.2.1,by omega⟩,?_,?_,?_⟩
     · rw [hr2,hr1]
       exact aLJ (by omega) (hz _ (by omega)) hv rfl rfl
     · rw [show i+1+d=i+d+1 by omega,hr2,oH (by omega)]
       exact hpt.2.2.1
     intro k hk
     rw [hr2,gX (by omega),hr1,gX (by omega)]
     exact hz k (by omega)
   show la.length - (i+1)<la.length - i
   omega
 rw [aQ hia] at hv
 refine Wc.gl 15 [0] ?_
 refine Wl.freezeRow 0 rfl hor fun G9 hle9 hA=>?_
 refine Wl.k 1 rfl (sR _ _ _ _ ‹_› (by omega) (by first | assumption | omega)) fun v1 G1 Ho1 hle1 hp=>?_
 obtain ⟨ta1,tm1,rfl,hta1,hte1,htr1,htl1,rfl,rfl⟩:=hp
 refine Wl.ga 5 [] ?_
 refine Ar.e2 ?_
 exact ⟨_,rfl,Nat32.of hta1 hte1 htr1 hdr hv (by omega),rfl⟩
theorem c252 (G:Imm) (a:Option Addr) (ca:Nat) (la:List U32) (s:Nat) (ha:Arr G a la) (da:Lims la) (h1:la.length≤1073741824) (hca:la.length≤ca) (hs:s<32) :
 Does Tryz.prog 252 [.slice a la.length ca,.int .i64 (s:Int)] G [] (fun v G' Ho=>∃ r,v=.tuple #[r,.int .i64 0]∧Nat32 G' r (aB la / ((2 ^ s:Nat):Int)) la.length∧Ho=[]):=by
 refine D0 Tryz.func252 Tryz.ntmps252 fun w=>?_
 have ed:(s:Int) / 32=0:=by omega
 have es:(s:Int) % 32=(s:Int):=by omega
 have hP:0<((2 ^ s:Nat):Int):=(gY (by omega)).choose_spec.2.2
 refine Wc.gl 19 [0] ?_
 refine Wl.k 0 rfl (sR _ _ _ _ ‹_› (by omega) (by first | assumption | omega)) fun v1 G1 Ho1 hle1 hp=>?_
 obtain ⟨ta1,tm1,rfl,hta1,hte1,htr1,htl1,rfl,rfl⟩:=hp
 refine Wl.gl 7 [] ?_
 refine Wl.p (fN rfl rfl (by omega)) ?_
 refine Wl.gc 5 [] ?_
 refine Wc.i (fun hc1=>?_) fun hc1=>?_
 refine Wc.ga 8 [] ?_
 refine Ar.e2 ?_
 rotate_left
 refine Wc.gl 6 [] ?_
 refine Wl.p (fN rfl rfl (by omega)) ?_
 refine Wl.p (aPG T.sl123 rfl rfl (by omega) (by omega)) ?_
 refine Wl.gl 6 [] ?_
 refine Wl.p (cO rfl rfl (by omega)) ?_
 refine Wl.gl 7 [] ?_
 refine Wl.make (α:=U32) 0 rfl T.sl123 T.el215 rfl rfl (by omega) (by omega) fun b1=>?_
 refine Wl.gc 12 [] ?_
 rotate_left
 · have hz:tm1=[]:=List.eq_nil_of_length_eq_zero (by omega)
   have hv0:aB la=0:=by rw [←fA hte1 htr1,hz,bW]
   refine ⟨_,rfl,⟨none,[],rfl,Arr.nil _,Lims.nil,Top.nil,?_,Nat.zero_le _⟩,rfl⟩
   rw [hv0,Int.zero_ediv,bW]
 have dm:=eS hte1 da
 have hta2:Arr G1 (subA ta1 tm1.length 0 1) tm1:=by
  have h2:=mQ (c:=tm1.length) (sz:=1) hta1 tm1.length
  rw [aQ (Nat.le_refl _)] at h2
  exact h2
 obtain ⟨tb,htb⟩:∃ tb,tb=subA ta1 tm1.length 0 1:=⟨_,rfl⟩
 rw [←htb] at hta2
 obtain ⟨N,hN⟩:∃ N,N=tm1.length:=⟨_,rfl⟩
 have hM:(((tm1.length - ((s:Int) / 32).toNat:Nat):Int)).toNat=N:=by omega
 rw [hM]
 have hown:∀ r:List U32,r.length=N→OwnA (some ⟨b1,0,none⟩) N r []:=fun r hr=>.inr ⟨b1,rfl,by rw [hr];rfl,by omega,by simp only [maxLen];omega⟩
 refine Wc.re 7 rfl (show _=Value.slice (some ⟨b1,0,none⟩) (List.replicate N (default:U32)).length N by rw [List.length_replicate]) ?_
 refine Wc.re 6 rfl (show _=Value.int .i64 (s:Int) by rw [es]) ?_
 refine Wc.re 0 rfl (show _=Value.slice tb tm1.length tm1.length by rw [ed,htb];rfl) ?_
 refine Wc.re 29 rfl (show _=Value.slice tb tm1.length tm1.length by rw [ed,htb];rfl) ?_
 refine Wc.re 30 rfl (show _=Value.int .i64 (tm1.length:Int) by rw [ed];rfl) ?_
 refine Wc.lp (ι:=Nat×List U32) (fun (i,r)=>([(31,.int .i64 (i:Int)),(7,.slice (some ⟨b1,0,none⟩) r.length N),(30,.int .i64 (tm1.length:Int)),(29,.slice tb (List.length tm1) (List.length tm1)),(0,.slice tb (List.length tm1) (List.length tm1)),(6,.int .i64 (↑s:Int)),(5,.int .i64 0),(4,.slice none 0 0)],[(0,some b1,Row 215 r [])])) (fun (i,r)=>i≤tm1.length∧r.length=N∧Lims r∧((2 ^ s:Nat):Int)*aB (r.take i)+lg tm1 0 % ((2 ^ s:Nat):Int)=aB (tm1.take i)+pb i*(lg tm1 i % ((2 ^ s:Nat):Int))) (fun (i,r)=>tm1.length - i) ((0,List.replicate N (default:U32))) (⟨Nat.zero_le _,List.length_replicate,fR N,by rw [List.take_zero,List.take_zero,bW,Int.mul_zero,tA,Int.one_mul]⟩) fun ⟨i,r⟩=>fun hk=>?_
 obtain ⟨hi,hrN,hdr,hv⟩:=hk
 have hor:=hown r hrN
 rcases Nat.lt_or_ge i tm1.length with hia | hia
 · have hx:0≤(tm1[((i:Nat):Int).toNat]?.getD default).v∧(tm1[((i:Nat):Int).toNat]?.getD default).v<4294967296:=jY dm hia
   have ex:(tm1[((i:Nat):Int).toNat]?.getD default).v=lg tm1 i:=rfl
   have ex1:(tm1[(((i:Nat):Int)+1).toNat]?.getD default).v=lg tm1 (i+1):=by unfold lg;rw [show (((i:Nat):Int)+1).toNat=((i+1:Nat):Int).toNat by omega]
   have hy:0≤(tm1[(((i:Nat):Int)+1).toNat]?.getD default).v∧(tm1[(((i:Nat):Int)+1).toNat]?.getD default).v<4294967296:=by rw [ex1];exact dL dm _
   by_cases hib:i+1<tm1.length
   · refine Wc.gl 14 [1] ?_
     refine Wl.at (α:=U32) T.sl123 ?_
     refine bM 0 T.one215 ?_
     refine Wl.gl 7 [] ?_
     refine Wl.p (aI rfl T.u214 rfl (by omega)) ?_
     refine Wl.gl 19 [1] ?_
     refine Wl.at (α:=U32) T.sl123 ?_
     refine Wl.q rfl (aL T.one215 rfl (Arr.cell ‹_› (by omega) 0 rfl rfl)) ?_
     refine Wl.p (aI rfl T.u214 rfl (by omega)) ?_
     refine Wl.p (mO rfl rfl (by omega)) ?_
     refine Wl.p (aHY rfl rfl (by omega) (by omega)) ?_
     refine Wl.gl 8 [] ?_
     refine Wl.p (aFL rfl rfl (by omega) (by omega)) ?_
     refine Wl.p (cF rfl T.u215 rfl) ?_
     refine Wl.q rfl (eR (α:=U32) T.sl123 rfl rfl ‹_› (by omega)) ?_
     refine bG (z:=_) 0 T.size215 rfl rfl rfl ‹_› (by omega) rfl fun ho1=>?_
     refine Wl.ga 7 [] ?_
     obtain ⟨out,hout⟩:∃ out,out=((tm1[(((i:Nat):Int)+1).toNat]?.getD default).v*4294967296+(tm1[((i:Nat):Int).toNat]?.getD default).v) / ((2 ^ s:Nat):Int) % 4294967296:=⟨_,rfl⟩
     have hpart:((2 ^ s:Nat):Int)*out=4294967296*(lg tm1 (i+1) % ((2 ^ s:Nat):Int))+lg tm1 i - lg tm1 i % ((2 ^ s:Nat):Int):=by
      rw [hout,ex,ex1];exact aBD (by omega) (dL dm i) (dL dm (i+1))
     refine Ar.reH 0 (Row 215 (r.set i (⟨out⟩:U32)) []) rfl (by rw [hout,Int.toNat_natCast]) ?_
     refine Ar.re 7 rfl (show _=Value.slice (some ⟨b1,0,none⟩) (r.set i (⟨out⟩:U32)).length N by rw [List.length_set]) ?_
     refine aH ((i+1,r.set i (⟨out⟩:U32))) ?_ ?_
     · exact ⟨by omega,by rw [List.length_set];exact hrN,bT hdr _ (by rw [hout];exact nW _),aBE (by omega) hv hpart⟩
     show tm1.length - (i+1)<tm1.length - i
     omega
   have hz0:=mP (show tm1.length≤i+1 by omega)
   refine Wc.gl 14 [1] ?_
   refine Wl.at (α:=U32) T.sl123 ?_
   refine bM 0 T.one215 ?_
   refine Wl.gl 7 [] ?_
   refine Wl.p (aI rfl T.u214 rfl (by omega)) ?_
   refine Wl.gl 21 [0] ?_
   refine Wl.p (aFL rfl rfl (by omega) (by omega)) ?_
   refine Wl.p (cF rfl T.u215 rfl) ?_
   refine bR (α:=U32) T.sl123 ?_
   refine bG (z:=_) 0 T.size215 rfl rfl rfl ‹_› (by omega) rfl fun ho1=>?_
   refine Wl.ga 7 [] ?_
   obtain ⟨out,hout⟩:∃ out,out=(tm1[((i:Nat):Int).toNat]?.getD default).v / ((2 ^ s:Nat):Int) % 4294967296:=⟨_,rfl⟩
   have hpart:((2 ^ s:Nat):Int)*out=4294967296*(lg tm1 (i+1) % ((2 ^ s:Nat):Int))+lg tm1 i - lg tm1 i % ((2 ^ s:Nat):Int):=by
    rw [hout,show (tm1[((i:Nat):Int).toNat]?.getD default).v=lg tm1 (i+1)*4294967296+lg tm1 i by rw [hz0,Int.zero_mul,Int.zero_add];rfl];exact aBD (by omega) (dL dm i) (dL dm (i+1))
   refine Ar.reH 0 (Row 215 (r.set i (⟨out⟩:U32)) []) rfl (by rw [hout,Int.toNat_natCast]) ?_
   refine Ar.re 7 rfl (show _=Value.slice (some ⟨b1,0,none⟩) (r.set i (⟨out⟩:U32)).length N by rw [List.length_set]) ?_
   refine aH ((i+1,r.set i (⟨out⟩:U32))) ?_ ?_
   · exact ⟨by omega,by rw [List.length_set];exact hrN,bT hdr _ (by rw [hout];exact nW _),aBE (by omega) hv hpart⟩
   show tm1.length - (i+1)<tm1.length - i
   omega
 have hii:i=tm1.length:=by omega
 subst hii
 have hval:=aPQ hP (by omega) hv
 refine Wc.gl 15 [0] ?_
 refine Wl.freezeRow 0 rfl hor fun G9 hle9 hA=>?_
 refine Wl.k 1 rfl (sR _ _ _ _ ‹_› (by omega) (by first | assumption | omega)) fun v2 G2 Ho2 hle2 hp=>?_
 obtain ⟨ta2,tm2,rfl,hta2,hte2,htr2,htl2,rfl,rfl⟩:=hp
 refine Wl.ga 5 [] ?_
 refine Ar.e2 ?_
 rw [fA hte1 htr1] at hval
 exact ⟨_,rfl,Nat32.of hta2 hte2 htr2 hdr hval (by omega),rfl⟩
end
end Go.Proofs.YtfdcckcadfhpeaaGreatDoor
namespace Go.Sl
open Go
section
variable {P:Program} {ops:Array Oper} {rest:List Oper} {B:Bs} {e:Env} {D:List Deferred} {H:Hp} {G:Imm} {K:Act→World→Prop}
 {ty:TypeId} {pos:String} {after:Array Edge} {d:Nat} {α:Type} [Cells α]
theorem wW {w:World} (hw:HoldH H G w) {T E bytes:Nat} {zs:List Value} (hT:aS P T E (Cells.sz α)) (hE:ElemOf P E (Cells.sz α) bytes zs) {a ad:Option Addr} {c2:Nat} {xs ys:List α}
 (hA:Src H G a xs) (hx0:0<xs.length) (hsrc:Src H G ad ys) (hy0:0<ys.length) (hb:(xs.length+ys.length)*bytes≤140737488355328) (hl:xs.length+ys.length≤maxLen) :
 ∃ c' junk' w',(Builtin.append_ #[T,T] ty #[.slice a xs.length xs.length,.slice ad ys.length c2]).run P w=.ok (.slice (some ⟨w.heap.size,0,none⟩) (xs++ys).length c') w'∧OwnA (some ⟨w.heap.size,0,none⟩) c' (xs++ys) junk'∧
  Upd (fun _=>False) w w'∧w'.heap.size=w.heap.size+1∧w'.heap[w.heap.size]?=some (Row E (xs++ys) junk'):=by
 obtain ⟨i,z,hi,hz1,hz2,hs,hby,hzl,hsz⟩:=hE
 have hm63:xs.length+ys.length≤9223372036854775807:=by simp only [maxLen] at hl;omega
 have hlen:(xs++ys).length=xs.length+ys.length:=List.length_append
 have hyl:(bH ys).length=ys.length*i.size:=by rw [aV,hs]
 have hxl:(bH xs).length=xs.length*i.size:=by rw [aV,hs]
 have junkLen:∀ k,(Builtin.zeroCells z.cells k).toList.length=k*Cells.sz α:=fun k=>by
  rw [Array.length_toList,size_zeroCells,hz2];simp [hzl]
 have fresh:∀ old,old<xs.length+ys.length→∃ junk',OwnA (some ⟨w.heap.size,0,none⟩) (grownCap w (xs.length+ys.length) old E) (xs++ys) junk'∧
  (w.drew.alloc (.cells ((bH xs).toArray++(bH ys).toArray++Builtin.zeroCells z.cells (grownCap w (xs.length+ys.length) old E - (xs.length+ys.length))) E)).heap[w.heap.size]?=some (Row E (xs++ys) junk'):=fun old hold=>by
  have hge:=grownCap_ge w (xs.length+ys.length) old E
  have hcm:grownCap w (xs.length+ys.length) old E≤maxLen:=grownCap_le_maxLen w _ old E hl
  refine ⟨(Builtin.zeroCells z.cells (grownCap w (xs.length+ys.length) old E - (xs.length+ys.length))).toList,.inr ⟨_,rfl,?_,by rw [hlen];exact hge,hcm⟩,?_⟩
  · rw [junkLen,hlen,←Nat.add_mul];congr 1;omega
  rw [show w.heap.size=w.drew.heap.size from rfl,cG]
  congr 1
  simp [Row,dZ]
 have hupd:∀ o,Upd (fun _=>False) w (w.drew.alloc o):=fun o=>(Upd.refl _ w).drew.alloc o
 rcases hA w hw with ⟨_,h0⟩ | ⟨ax,rfl,hcell⟩
 · rw [h0] at hx0;simp at hx0
 rcases hsrc w hw with ⟨_,h0⟩ | ⟨src,rfl,hsr⟩
 · rw [h0] at hy0;simp at hy0
 have hr:=run_append_grow (P:=P) w T ty E i z hT.1 hi hz1 ax xs.length xs.length (bH xs) hxl hcell src ys.length c2 (bH ys) hyl hsr (by omega) (by omega) (growslice_fits (by omega) (by rw [hby];exact hb))
 obtain ⟨junk',h1,h2⟩:=fresh xs.length (by omega)
 exact ⟨_,junk',_,by rw [hlen];exact hr,h1,hupd _,by simp,h2⟩
theorem zB {s x:Operand} {T E bytes:Nat} {zs:List Value} {a ad:Option Addr} {c2:Nat} {xs ys:List α} (t:Nat) (hn:Nat.ble (d+1) B.n=true) (hT:aS P T E (Cells.sz α)) (hE:ElemOf P E (Cells.sz α) bytes zs)
 (hs:e.ev s=some (.slice a xs.length xs.length)) (hx:e.ev x=some (.slice ad ys.length c2)) (hA:Src H G a xs) (hx0:0<xs.length) (hsrc:Src H G ad ys) (hy0:0<ys.length)
 (hb:(xs.length+ys.length)*bytes≤140737488355328) (hl:xs.length+ys.length≤maxLen)
 (h:∀ b c' junk',OwnA (some ⟨b,0,none⟩) c' (xs++ys) junk'→Wl P ops rest B ⟨(d,.slice (some ⟨b,0,none⟩) (xs++ys).length c') :: e,D,(t,some b,Row E (xs++ys) junk') :: H,G⟩ K) :
 Wl P ops (⟨some d,.call { callee:=.builtin .append,args:=#[s,x],argTypes:=#[T,T] },ty,pos,after,none⟩ :: rest) B ⟨e,D,H,G⟩ K:=by
 intro ac w hh
 obtain ⟨c',junk',w',hrun,ho',hu,hsz,hbk⟩:=wW (c2:=c2) (ty:=ty) hh.mem hT hE hA hx0 hsrc hy0 hb hl
 unfold bK
 rw [if_pos (by simp [Region.wanted])]
 unfold iR
 have hex:(execOp ac.eval ⟨some d,.call { callee:=.builtin .append,args:=#[s,x],argTypes:=#[T,T] },ty,pos,after,none⟩).run P w=.ok (.value (.slice (some ⟨w.heap.size,0,none⟩) (xs++ys).length c')) w':=by
  simp only [execOp,resolve,invoke,builtin,Sem.run_bind,Sem.run_pure,Result.andThen_ok,List.map_toArray,List.map_cons,List.map_nil,hh.eval hs,hh.eval hx,hrun]
 rw [hex]
 exact h _ c' junk' ho' _ _ (Hold.put (hh.ownNew t hu hsz hbk) hn _)
end
end Go.Sl
namespace Go.Proofs.YtfdcckcadfhpeaaGreatDoor
open Go Go.Sl
theorem jB {l:List U32} (h:Lims l) (k:Nat):Lims (l.drop k):=fun d hd=>h d (List.mem_of_mem_drop hd)
theorem nX:∀ (f x:Nat),0<x→x<2 ^ f→1≤Lib.bitLenAux f x∧Lib.bitLenAux f x≤f∧2 ^ (Lib.bitLenAux f x - 1)≤x∧x<2 ^ Lib.bitLenAux f x
 | 0,x,h0,h1=>by simp at h1;omega
 | f+1,x,h0,h1=>by
   unfold Lib.bitLenAux
   rw [if_neg (by omega)]
   by_cases h2:x / 2=0
   · have hx:x=1:=by omega
     subst hx
     have:Lib.bitLenAux f (1 / 2)=0:=by cases f <;> simp [Lib.bitLenAux]
     rw [this];simp
   have ih:=nX f (x / 2) (by omega) (by rw [Nat.pow_succ] at h1;omega)
   obtain ⟨a1,a2,a3,a4⟩:=ih
   refine ⟨by omega,by omega,?_,?_⟩
   · rw [Nat.add_sub_cancel_left,←Nat.sub_add_cancel a1,Nat.pow_succ];omega
   rw [Nat.add_comm 1,Nat.pow_succ];omega
theorem aIC {x:Int} (h0:0<x) (h1:x<4294967296):∃ s:Nat,s<32∧32 - (Lib.bitLen x.toNat:Int)=(s:Int)∧2147483648≤((2 ^ s:Nat):Int)*x∧((2 ^ s:Nat):Int)*(x+1)≤4294967296:=by
 have hb:=nX 64 x.toNat (by omega) (by have:(2:Nat) ^ 64=18446744073709551616:=(by decide);omega)
 have hle:=Lib.bitLen_le x.toNat 32 (by omega) (by omega)
 unfold Lib.bitLen at hle ⊢
 generalize Lib.bitLenAux 64 x.toNat=L at *
 obtain ⟨b1,b2,b3,b4⟩:=hb
 refine ⟨32 - L,by omega,by omega,?_,?_⟩
 · have e:2 ^ (32 - L)*2 ^ (L - 1)=2147483648:=by
    rw [←Nat.pow_add,show 32 - L+(L - 1)=31 by omega]
   have h2:=Nat.mul_le_mul_left (2 ^ (32 - L)) b3
   rw [e] at h2
   have h3:((2 ^ (32 - L):Nat):Int)*x=((2 ^ (32 - L)*x.toNat:Nat):Int):=by rw [Int.natCast_mul,Int.toNat_of_nonneg (by omega)]
   rw [h3];omega
 have e:2 ^ (32 - L)*2 ^ L=4294967296:=by
  rw [←Nat.pow_add,show 32 - L+L=32 by omega]
 have h2:=Nat.mul_le_mul_left (2 ^ (32 - L)) (show x.toNat+1≤2 ^ L by omega)
 rw [e] at h2
 have h3:((2 ^ (32 - L):Nat):Int)*(x+1)=((2 ^ (32 - L)*(x.toNat+1):Nat):Int):=by rw [Int.natCast_mul,Int.natCast_add,Int.toNat_of_nonneg (by omega)];rfl
 rw [h3];omega
theorem aLL {b v:List U32} {m:Nat} {P:Int} (hP:0<P) (hb:b.length=m+2) (db:Lims b) (dv:Lims v) (tv:Top v) (hx:2147483648≤P*lg b (m+1)) (hx2:P*(lg b (m+1)+1)≤4294967296) (hv:aB v=P*aB b):v.length=m+2∧2147483648≤lg v (m+1):=by
 have e1:=bY b (m+1)
 rw [aQ (show b.length≤m+1+1 by omega)] at e1
 have h1:=eK (db.take (m+1))
 have h2:=bS (db.take (m+1))
 rw [List.length_take,Nat.min_eq_left (by omega)] at h1
 have hp:=gG (m+1)
 have up:aB v<pb (m+2):=by
  have f1:=Int.mul_lt_mul_of_pos_left (show aB b<pb (m+1)*(lg b (m+1)+1) by rw [Int.mul_add,Int.mul_one];omega) hP
  have f2:=Int.mul_le_mul_of_nonneg_left hx2 (Int.le_of_lt hp)
  rw [hv,show m+2=m+1+1 by omega,fP,Int.mul_comm 4294967296]
  rw [Int.mul_left_comm P] at f1
  omega
 have low:pb (m+1)*2147483648≤aB v:=by
  have f1:=Int.mul_le_mul_of_nonneg_left (show pb (m+1)*lg b (m+1)≤aB b by omega) (Int.le_of_lt hP)
  have f2:=Int.mul_le_mul_of_nonneg_left hx (Int.le_of_lt hp)
  rw [hv]
  rw [Int.mul_left_comm P] at f1
  omega
 have l1:=aAV dv tv up
 have l2:m+2≤v.length:=by
  rcases Nat.lt_or_ge v.length (m+2) with h | h
  · have f1:=eK dv
    have f2:=xN (show v.length≤m+1 by omega)
    omega
  exact h
 have hl:v.length=m+2:=by omega
 refine ⟨hl,?_⟩
 have e2:=bY v (m+1)
 rw [aQ (show v.length≤m+1+1 by omega)] at e2
 have h3:=eK (dv.take (m+1))
 rw [List.length_take,Nat.min_eq_left (by omega)] at h3
 rcases Int.lt_or_le (lg v (m+1)) 2147483648 with h | h
 · have f1:=Int.mul_le_mul_of_nonneg_left (show lg v (m+1)+1≤2147483648 by omega) (Int.le_of_lt hp)
   rw [Int.mul_add,Int.mul_one] at f1
   omega
 exact h
theorem aBF {x y:Int} (h:bL x y<0):x<y:=by
 unfold bL at h
 split at h
 · assumption
 split at h <;> omega
theorem aLM (R:List U32) (i n:Nat):R=R.take i++((R.drop i).take n++R.drop (i+n)):=by
 rw [←List.drop_drop,List.take_append_drop,List.take_append_drop]
theorem aID {u v:List U32} (du:Lims u) (dv:Lims v) (tv:Top v) (h0:0<v.length) (hl:v.length≤u.length):aB ((u++[(default:U32)]).drop (u.length+1 - v.length))<aB v:=by
 rw [List.drop_append_of_le_length (by omega),cT,mM]
 have h1:=eK (jB du (u.length+1 - v.length))
 rw [List.length_drop,show u.length - (u.length+1 - v.length)=v.length - 1 by omega] at h1
 have h2:=tB dv tv (fun e=>by rw [e] at h0;simp at h0)
 show aB (u.drop (u.length+1 - v.length))+pb _*0<_
 rw [Int.mul_zero];omega
theorem aLN {R v:List U32} {i n:Nat} (dR:Lims R) (dv:Lims v) (hi:i<R.length) (hn:v.length=n) (hl:i+(n+1)≤R.length) (h:aB (R.drop (i+1))<aB v) :
 aB ((R.drop i).take (n+1))<4294967296*aB v∧aB (R.drop (i+(n+1)))=0:=by
 have e1:=eZ hi
 have e2:=jL (R.drop i) (show n+1≤(R.drop i).length by rw [List.length_drop];omega)
 rw [List.drop_drop] at e2
 have h1:=dL dR i
 have h2:=eK dv
 rw [hn] at h2
 have h3:=bS (jB dR (i+(n+1)))
 have h4:=bS ((jB dR i).take (n+1))
 have h5:=bS (jB dR (i+1))
 have hp:=gG (n+1)
 have h6:aB (R.drop (i+(n+1)))=0:=by
  rcases (show aB (R.drop (i+(n+1)))=0∨1≤aB (R.drop (i+(n+1))) by omega) with hz | hz
  · exact hz
  have f1:=Int.mul_le_mul_of_nonneg_left hz (Int.le_of_lt hp)
  rw [Int.mul_one] at f1
  have f2:=fP n
  omega
 refine ⟨?_,h6⟩
 rw [h6,Int.mul_zero] at e2
 omega
theorem aPR {a b q R P:Int} (hP:0<P) (h:P*a=q*(P*b)+R) (h0:0≤R) (h1:R<P*b):R / P=a % b∧q=a / b∧0<b:=by
 have e:R=P*(a - q*b):=by rw [Int.mul_sub,Int.mul_left_comm P q];omega
 have e1:R / P=a - q*b:=by rw [e,Int.mul_ediv_cancel_left _ (Int.ne_of_gt hP)]
 have l0:0≤a - q*b:=by
  rw [e] at h0
  exact Int.le_of_mul_le_mul_left (by rw [Int.mul_zero];exact h0) hP
 have l1:a - q*b<b:=by
  rw [e] at h1
  exact Int.lt_of_mul_lt_mul_left h1 (Int.le_of_lt hP)
 have hb:0<b:=by omega
 have:=(Int.ediv_emod_unique (a:=a) (b:=b) (r:=a - q*b) (q:=q) hb).2 ⟨by rw [Int.mul_comm b q];omega,l0,l1⟩
 exact ⟨e1.trans this.2.symm,this.1.symm,hb⟩
theorem mS {G:Imm} {v:Value} {z:Int} {n:Nat} {lb:List U32} (h:Nat32 G v z n) (db:Lims lb) (hz:z<aB lb):Nat32 G v z lb.length:=by
 obtain ⟨b,m,h1,h2,h3,h4,h5,h6⟩:=h
 refine ⟨b,m,h1,h2,h3,h4,h5,?_⟩
 rcases Nat.lt_or_ge lb.length m.length with h7 | h7
 · have:=iI db h3 h4 h7;omega
 exact h7
theorem c249 (G:Imm) (x:Int) (h0:0≤x) (h1:x≤4294967295):Does Tryz.prog 249 [.int .u32 x] G [] (fun v G' Ho=>v=.int .i64 (32 - (Lib.bitLen x.toNat:Int))∧G'=G∧Ho=[]):=
 uM fun w=>Tryz.bits_LeadingZeros32 x w h0 h1
theorem c249s (G:Imm) (x:Int) (h0:0<x) (h1:x<4294967296):Does Tryz.prog 249 [.int .u32 x] G [] (fun v G' Ho=>∃ sh:Nat,v=.int .i64 (sh:Int)∧sh<32∧2147483648≤((2 ^ sh:Nat):Int)*x∧((2 ^ sh:Nat):Int)*(x+1)≤4294967296∧G'=G∧Ho=[]):=by
 obtain ⟨sh,h2,h3,h4,h5⟩:=aIC h0 h1
 exact (c249 G x (by omega) (by omega)).mono fun v G' Ho _ ⟨e1,e2,e3⟩=>⟨sh,by rw [e1,h3],h2,h4,h5,e2,e3⟩
theorem aRD (G:Imm) (a:Option Addr) (ca:Nat) (la:List U32) (s:Nat) (ha:Arr G a la) (da:Lims la) (h1:la.length≤1073741824) (hs:s<32) :
 Does Tryz.prog 250 [.slice a la.length ca,.int .i64 (s:Int)] G [] (fun v G' Ho=>∃ r,v=.tuple #[r,.int .i64 0]∧Nat32 G' r (((2 ^ s:Nat):Int)*aB la) (la.length+1)∧Ho=[]):=by
 have h:=c250 G a ca la 0 s ha da h1 hs (by omega)
 rw [show 32*0+s=s by omega,tA,Int.one_mul] at h
 exact h
section
attribute [local irreducible] aB pb bL bK
theorem c222 (G:Imm) (a b:Option Addr) (ca cb:Nat) (la lb:List U32) (ha:Arr G a la) (hb:Arr G b lb) (da:Lims la) (ta:Top la) (db:Lims lb) (h1:la.length≤536870912) (h2:lb.length≤536870912) (h3:la.length≤ca) (h4:lb.length≤cb) (hB:0<aB lb) :
 Does Tryz.prog 222 [.slice a la.length ca,.slice b lb.length cb] G [] (fun v G' Ho=>∃ q r,v=.tuple #[q,r,.int .i64 0]∧Nat32 G' q (aB la / aB lb) la.length∧Nat32 G' r (aB la % aB lb) lb.length∧Ho=[]):=by
 have hA:=bS da
 refine D0 Tryz.func222 Tryz.ntmps222 fun w=>?_
 refine Wc.gl 10 [] ?_
 refine Wl.k 0 rfl (sR _ _ _ _ ‹_› (by omega) (by first | assumption | omega)) fun v1 G1 Ho1 hle1 hp=>?_
 obtain ⟨ta1,tm1,rfl,hta1,hte1,htr1,htl1,rfl,rfl⟩:=hp
 refine Wl.gc 3 [] ?_
 have dm:=eS hte1 db
 have tp:=mR hte1 htr1
 have hV:=fA hte1 htr1
 have hpos:0<tm1.length:=by
  rcases Nat.eq_zero_or_pos tm1.length with h | h
  · have h5:=List.eq_nil_of_length_eq_zero h
    rw [h5,bW] at hV
    omega
  exact h
 by_cases hlt:aB la<aB tm1
 · have hcmp:bL (aB la) (aB tm1)=-1:=iC hlt
   refine Wc.gl 16 [0] ?_
   refine Wl.k0 rfl (aBC _ _ _ _ _ _ _ ‹_› ‹_› ‹_› ‹_› (by omega) (by omega) (by omega) (by omega)) ?_
   refine Wl.gl 7 [1] ?_
   refine Wl.k 0 rfl (c185 _ _ _ _ ‹_› (by first | omega | (simp only [List.length_cons,List.length_nil];omega)) (by first | omega | (simp only [List.length_cons,List.length_nil];omega))) fun v2 G2 Ho2 hle2 hp=>?_
   obtain ⟨na2,nm2,rfl,hna2,hne2,hnt2,hnl2,rfl⟩:=hp
   replace ha:=ha.up hle2
   replace hb:=hb.up hle2
   replace hta1:=hta1.up hle2
   refine Wl.ga 7 [] ?_
   refine Ar.e3 ?_
   refine ⟨_,_,rfl,⟨none,[],rfl,Arr.nil _,Lims.nil,Top.nil,?_,Nat.zero_le _⟩,mS (Nat32.of hna2 hne2 hnt2 da ?_ (Nat.le_refl _)) db ?_,rfl⟩
   · rw [bW,Int.ediv_eq_zero_of_lt hA (by omega)]
   · rw [Int.emod_eq_of_lt hA (by omega)]
   exact Int.emod_lt_of_pos _ hB
 have hcmp:¬bL (aB la) (aB tm1)<0:=fun h=>hlt (aBF h)
 by_cases hone:tm1.length=1
 · have hv1:=aKX hone
   have hr1:=dL dm 0
   have e1:(tm1[(0:Int).toNat]?.getD default).v=lg tm1 0:=rfl
   have hb0:0<(tm1[(0:Int).toNat]?.getD default).v∧(tm1[(0:Int).toNat]?.getD default).v<4294967296:=by rw [e1];omega
   refine Wc.gl 16 [0] ?_
   refine Wl.k0 rfl (aBC _ _ _ _ _ _ _ ‹_› ‹_› ‹_› ‹_› (by omega) (by omega) (by omega) (by omega)) ?_
   refine Wl.gl 19 [0,1] ?_
   refine Wl.at (α:=U32) T.sl123 ?_
   refine Wl.q rfl (aL T.one215 rfl (Arr.cell ‹_› (by omega) 0 rfl rfl)) ?_
   refine Wl.k 0 rfl (c248 _ _ _ _ _ ‹_› ‹_› (by omega) (by omega) (by omega)) fun v2 G2 Ho2 hle2 hp=>?_
   obtain ⟨dq2,dz2,dm2,rfl,⟨dqa2,dqm2,rfl,hdqa2,hdql2,hdqt2,hdqv2,hdqn2⟩,hdv2,hd02,hd12,rfl⟩:=hp
   replace ha:=ha.up hle2
   replace hb:=hb.up hle2
   replace hta1:=hta1.up hle2
   refine Wl.gl 13 [] ?_
   refine Wl.lit (α:=U32) 0 [⟨dm2⟩] rfl T.sl123 T.el215 rfl rfl rfl rfl rfl fun b1=>?_
   have hdl:Lims [(⟨dm2⟩:U32)]:=Lims.one (by omega)
   refine Wl.freezeRow 0 rfl (dV (xs:=[(⟨dm2⟩:U32)]) (by simp [maxLen])) fun G9 hle9 hA9=>?_
   replace hdqa2:=hdqa2.up hle9
   refine Wl.k 1 rfl (c185 _ _ _ _ ‹_› (by first | omega | (simp only [List.length_cons,List.length_nil];omega)) (by first | omega | (simp only [List.length_cons,List.length_nil];omega))) fun v3 G3 Ho3 hle3 hp=>?_
   obtain ⟨na3,nm3,rfl,hna3,hne3,hnt3,hnl3,rfl⟩:=hp
   replace hA9:=hA9.up hle3
   replace hdqa2:=hdqa2.up hle3
   refine Wl.ga 7 [] ?_
   refine Ar.e3 ?_
   have hdu:=(Int.ediv_emod_unique (a:=aB la) (b:=aB lb) (r:=dm2) (q:=dz2) hB).2 ⟨by rw [Int.mul_comm,←hV,hv1,←e1];omega,hd02,by rw [←hV,hv1,←e1];exact hd12⟩
   refine ⟨_,_,rfl,⟨dqa2,dqm2,rfl,hdqa2,hdql2,hdqt2,by rw [hdqv2,hdu.1],hdqn2⟩,mS (Nat32.of hna3 hne3 hnt3 hdl (by rw [mM,hdu.2]) (Nat.le_refl _)) db (Int.emod_lt_of_pos _ hB),rfl⟩
 obtain ⟨m,hm⟩:∃ m,tm1.length=m+2:=⟨tm1.length - 2,by omega⟩
 have hx:=dL dm (m+1)
 have ex:(tm1[((tm1.length:Int) - 1).toNat]?.getD default).v=lg tm1 (m+1):=by unfold lg;rw [show ((tm1.length:Int) - 1).toNat=((m+1:Nat):Int).toNat by omega]
 have hx1:lg tm1 (m+1)≠0:=by
  rcases tp with h | h
  · rw [h] at hm;simp at hm
  unfold lg;rw [Int.toNat_natCast,show m+1=tm1.length - 1 by omega];exact h
 have hxb:0<(tm1[((tm1.length:Int) - 1).toNat]?.getD default).v∧(tm1[((tm1.length:Int) - 1).toNat]?.getD default).v<4294967296:=by rw [ex];omega
 refine Wc.gl 16 [0] ?_
 refine Wl.k0 rfl (aBC _ _ _ _ _ _ _ ‹_› ‹_› ‹_› ‹_› (by omega) (by omega) (by omega) (by omega)) ?_
 refine Wl.gl 23 [0,0] ?_
 refine Wl.at (α:=U32) T.sl123 ?_
 refine bM 0 T.one215 ?_
 refine Wl.k 0 rfl (c249s _ _ (by omega) (by omega)) fun v2 G2 Ho2 hle2 hp=>?_
 obtain ⟨sh,rfl,hsh,hs1,hs2,rfl,rfl⟩:=hp
 refine Wl.gl 7 [] ?_
 refine Wl.k 0 rfl (aRD _ _ _ _ sh ‹_› ‹_› (by omega) (by omega)) fun v3 G3 Ho3 hle3 hp=>?_
 obtain ⟨sr3,rfl,⟨sa3,sm3,rfl,hsa3,hsl3,hst3,hsv3,hsn3⟩,rfl⟩:=hp
 replace ha:=ha.up hle3
 replace hb:=hb.up hle3
 replace hta1:=hta1.up hle3
 refine Wl.gl 11 [] ?_
 refine Wl.k 0 rfl (aRD _ _ _ _ sh ‹_› ‹_› (by omega) (by omega)) fun v4 G4 Ho4 hle4 hp=>?_
 obtain ⟨sr4,rfl,⟨sa4,sm4,rfl,hsa4,hsl4,hst4,hsv4,hsn4⟩,rfl⟩:=hp
 replace hsa3:=hsa3.up hle4
 replace ha:=ha.up hle4
 replace hb:=hb.up hle4
 replace hta1:=hta1.up hle4
 refine Wl.gl 10 [] ?_
 refine Wl.lit (α:=U32) 0 [⟨0⟩] rfl T.sl123 T.el215 rfl rfl rfl rfl rfl fun b1=>?_
 have hP:0<((2 ^ sh:Nat):Int):=(gY (s:=sh) (by omega)).choose_spec.2.2
 obtain ⟨hvl,hvt⟩:=aLL hP hm dm hsl3 hst3 (by rw [←ex];exact hs1) (by rw [←ex];exact hs2) hsv3
 have hge:aB sm3≤aB sm4:=by
  rw [hsv3,hsv4];exact Int.mul_le_mul_of_nonneg_left (by omega) (Int.le_of_lt hP)
 have huv:sm3.length≤sm4.length:=by
  rcases Nat.lt_or_ge sm4.length sm3.length with h | h
  · have:=iI hsl4 hsl3 hst3 h;omega
  exact h
 refine zB (α:=U32) (xs:=sm4) (ys:=[(⟨0⟩:U32)]) 40 rfl T.sl123 T.el215 rfl rfl (nG ‹_›) (by omega) (Src.row 0 rfl) (by decide) (by simp only [List.length_cons,List.length_nil];omega) (by simp only [List.length_cons,List.length_nil,maxLen];omega) fun b2 c2 j2 ho2=>?_
 have hstart:=aID hsl4 hsl3 hst3 (by omega) huv
 have huA:aB (sm4++[(⟨0⟩:U32)])=aB sm4:=by rw [cT,mM];show _+_*0=_;omega
 have dU:Lims (sm4++[(⟨0⟩:U32)]):=hsl4.append (Lims.one (by decide))
 have lU:(sm4++[(⟨0⟩:U32)]).length=sm4.length+1:=by rw [List.length_append];rfl
 change aB ((sm4++[(⟨0⟩:U32)]).drop _)<_ at hstart
 generalize sm4++[(⟨0⟩:U32)]=uL at *
 refine Wl.gl 16 [] ?_
 refine Wl.make (α:=U32) 41 rfl T.sl123 T.el215 rfl rfl (by omega) (by omega) fun b3=>?_
 refine Wl.gc 15 [] ?_
 obtain ⟨N,hN⟩:∃ N,N=uL.length - sm3.length:=⟨_,rfl⟩
 have hM:((uL.length:Int) - (sm3.length:Int)).toNat=N:=by omega
 rw [hM]
 have hNs:sm4.length+1 - sm3.length=N:=by omega
 rw [hNs] at hstart
 have hown:∀ r:List U32,r.length=N→OwnA (some ⟨b3,0,none⟩) N r []:=fun r hr=>.inr ⟨b3,rfl,by rw [hr];rfl,by omega,by simp only [maxLen];omega⟩
 have hc2:uL.length≤c2:=ho2.le
 have hownU:∀ r:List U32,r.length=uL.length→OwnA (some ⟨b2,0,none⟩) c2 r j2:=fun r hr=>by
  rcases ho2 with ⟨h,_⟩ | ⟨b',e,h5,h6,h7⟩
  · cases h
  exact .inr ⟨b',e,by rw [hr];exact h5,by rw [hr];exact h6,h7⟩
 refine Wc.re 16 rfl (show _=Value.slice (some ⟨b3,0,none⟩) (List.replicate N (default:U32)).length N by rw [List.length_replicate]) ?_
 refine Wc.re 17 rfl (show _=Value.int .i64 ((N:Int) - 1) by congr 1;omega) ?_
 refine Wc.lp (ι:=Nat×List U32×List U32) (fun (k,q,R)=>([(17,.int .i64 ((k:Int) - 1)),(16,.slice (some ⟨b3,0,none⟩) q.length N),(13,.slice (some ⟨b2,0,none⟩) R.length c2),(15,.int .i64 (sm3.length:Int)),(11,.slice sa3 (List.length sm3) (List.length sm3)),(10,.int .i64 (↑sh:Int)),(6,.int .i64 0),(5,.slice none 0 0),(4,.slice none 0 0)],[(41,some b3,Row 215 q []),(40,some b2,Row 215 R j2),(0,some b1,Row (α:=Go.Sl.U32) 215 ([Go.Sl.U32.mk 0]) ([]))])) (fun (k,q,R)=>k≤N∧q.length=N∧Lims q∧R.length=uL.length∧Lims R∧aB sm4=aB q*aB sm3+aB R∧aB (R.drop k)<aB sm3∧∀ j,j<k→lg q j=0) (fun (k,q,R)=>k) ((N,List.replicate N (default:U32),uL)) (⟨Nat.le_refl _,List.length_replicate,fR N,rfl,dU,by rw [show aB (List.replicate N (default:U32))=0 from jK N,Int.zero_mul,Int.zero_add,huA],hstart,fun j _=>pS N j⟩) fun ⟨k,q,R⟩=>fun hk=>?_
 obtain ⟨hk1,hqN,hdq,hRn,hdR,hval,hRlt,hqz⟩:=hk
 have hoq:=hown q hqN
 have hoR:=hownU R hRn
 rcases Nat.eq_zero_or_pos k with rfl | hkp
 · rw [List.drop_zero] at hRlt
   refine Wc.gl 17 [0] ?_
   refine Wl.freezeRow 41 rfl hoq (fun G8 hle8 hAq=>Wl.freezeRow 40 rfl hoR (fun G9 hle9 hAR=>?_))
   replace hAq:=hAq.up hle9
   refine Wl.k 42 rfl (c252 _ _ _ _ sh ‹_› ‹_› (by omega) (by omega) (by omega)) fun v5 G5 Ho5 hle5 hp=>?_
   obtain ⟨sr5,rfl,⟨sa5,sm5,rfl,hsa5,hsl5,hst5,hsv5,hsn5⟩,rfl⟩:=hp
   replace hAR:=hAR.up hle5
   replace hAq:=hAq.up hle5
   refine Wl.gl 10 [] ?_
   refine Wl.k 42 rfl (sR _ _ _ _ ‹_› (by omega) (by first | assumption | omega)) fun v6 G6 Ho6 hle6 hp=>?_
   obtain ⟨ta6,tm6,rfl,hta6,hte6,htr6,htl6,rfl,rfl⟩:=hp
   refine Wl.ga 7 [] ?_
   refine Ar.e3 ?_
   have hRn0:=bS hdR
   rw [hsv3,hsv4,hV] at hval
   rw [hsv3,hV] at hRlt
   obtain ⟨hd1,hd2,_⟩:=aPR hP hval hRn0 hRlt
   exact ⟨_,_,rfl,Nat32.of hta6 hte6 htr6 hdq hd2 (by omega),mS ⟨sa5,sm5,rfl,hsa5,hsl5,hst5,by rw [hsv5,hd1],Nat.le_refl _⟩ db (Int.emod_lt_of_pos _ hB),rfl⟩
 obtain ⟨i,rfl⟩:∃ i,k=i+1:=⟨k - 1,by omega⟩
 have ei:(((i+1:Nat):Int) - 1).toNat=i:=by omega
 refine Wc.gl 21 [1] ?_
 refine Wl.p (aKH T.sl123 rfl rfl rfl (by omega) (by omega) (by omega)) ?_
 refine aA 1 [] ?_
 have hroom:=aLN (n:=m+2) hdR hsl3 (show i<R.length by omega) hvl (by omega) hRlt
 obtain ⟨p,hp⟩:∃ p,p=R.take i:=⟨_,rfl⟩
 obtain ⟨ww,hw⟩:∃ ww,ww=(R.drop i).take (m+3):=⟨_,rfl⟩
 obtain ⟨z,hz⟩:∃ z,z=R.drop (i+(m+3)):=⟨_,rfl⟩
 have hsplit:R=p++(ww++z):=by rw [hp,hw,hz];exact aLM R i (m+3)
 have lp:p.length=i:=by rw [hp,List.length_take];omega
 have lw:ww.length=m+3:=by rw [hw,List.length_take,List.length_drop];omega
 have dw:Lims ww:=by rw [hw];exact (jB hdR i).take _
 obtain ⟨hr1,hr2⟩:=hroom
 rw [show m+2+1=m+3 by omega] at hr1 hr2
 rw [←hw] at hr1
 rw [←hz] at hr2
 refine Wl.re 93 rfl (show _=Value.slice (some ⟨b2,p.length,none⟩) ww.length (c2 - i) by
  rw [ei,lp,lw]
  show Value.slice (if c2=i then (some ⟨b2,0,none⟩:Option Addr) else (some ⟨b2,0,none⟩:Option Addr).map (·.add (i*1))) _ _=_
  rw [if_neg (by omega),Option.map_some,add_lit,Nat.mul_one,Nat.zero_add]
  congr 1
  omega) ?_
 refine Wl.reH 40 (Row 215 (p++(ww++z)) j2) rfl (by rw [←hsplit]) ?_
 refine Wl.k 40 rfl (c251 _ b2 p ww z j2 _ _ _ sm3 m ‹_› dw hsl3 (by omega) lw hvl hvt hr1) fun r9 G9 Ho9 hle9 hp9=>?_
 obtain ⟨w9,g9,rfl,rfl,rfl,hg1,hg2,hwl,hwd,hwv,hwlt⟩:=hp9
 refine bR (α:=U32) T.sl123 ?_
 refine bG (z:=_) 41 T.size215 rfl rfl rfl ‹_› (by omega) rfl fun ho1=>?_
 refine Wl.ga 8 [] ?_
 have lz:z.length=R.length - (i+(m+3)):=by rw [hz,List.length_drop]
 have dz:Lims z:=by rw [hz];exact jB hdR _
 have dp:Lims p:=by rw [hp];exact hdR.take _
 have hwin:=aPN p ww w9 z (by omega)
 rw [←hsplit,lp,hwv,show aB ww - g9*aB sm3 - aB ww=-(g9*aB sm3) by omega] at hwin
 have lR:(p++(w9++z)).length=uL.length:=by rw [List.length_append,List.length_append];omega
 refine Ar.re 17 rfl (show _=Value.int .i64 ((i:Int) - 1) by congr 1;omega) ?_
 refine Ar.reH 41 (Row 215 (q.set i (⟨g9⟩:U32)) []) rfl (by rw [ei]) ?_
 refine Ar.re 16 rfl (show _=Value.slice (some ⟨b3,0,none⟩) (q.set i (⟨g9⟩:U32)).length N by rw [List.length_set]) ?_
 refine Ar.re 13 rfl (show _=Value.slice (some ⟨b2,0,none⟩) (p++(w9++z)).length c2 by rw [lR,hRn]) ?_
 refine aH ((i,q.set i (⟨g9⟩:U32),p++(w9++z))) ?_ ?_
 · refine ⟨by omega,by rw [List.length_set];exact hqN,bT hdq _ ⟨hg1,hg2⟩,lR,dp.append (hwd.append dz),aLG (q:=0) (by omega) (hqz i (by omega)) hval hwin,?_,fun j hj=>by rw [gX (by omega)];exact hqz j (by omega)⟩
   rw [List.drop_append_of_le_length (by omega),List.drop_eq_nil_of_le (by omega),List.nil_append,cT,hr2,Int.mul_zero,Int.add_zero]
   exact hwlt
 show i<i+1
 omega
end
theorem IsBig.make {neg:Bool} {m:List U32} (hd:Lims m) (ht:Top m):IsBig (neg && decide (0<m.length)) m (if neg=true then -aB m else aB m):=by
 refine ⟨hd,ht,fun e=>by rw [e];simp,?_⟩
 by_cases h:0<m.length
 · simp [h]
 have e:m=[]:=List.eq_nil_of_length_eq_zero (by omega)
 rw [e];simp [bW]
theorem Big.make {G:Imm} {b:Option Addr} {c:Nat} {m:List U32} (neg:Bool) (hA:Arr G b m) (hd:Lims m) (ht:Top m) (hc:m.length≤c) {z:Int} (hz:z=if neg=true then -aB m else aB m):Big G ⟨neg && decide (0<m.length),b,m.length,c⟩ z:=
 ⟨m,rfl,hc,hA,hz▸IsBig.make hd ht⟩
theorem Big.len {G:Imm} {x:IV} {z:Int} (h:Big G x z) {m:Nat} (hz:(z.natAbs:Int)<pb m):x.n≤m:=by
 obtain ⟨l,h1,_,_,h4⟩:=h
 rw [←h1];exact h4.len hz
theorem Big.out {G:Imm} {x:IV} {z z':Int} (h:Big G x z) (e:z=z'):Big G x z':=e▸h
def sgZ (z:Int):Int:=if z=0 then 0 else if z<0 then -1 else 1
theorem aLO {z:Int} (h:z<0):sgZ z=-1:=by unfold sgZ;rw [if_neg (by omega),if_pos h]
theorem aLP {z:Int} (h:0<z):sgZ z=1:=by unfold sgZ;rw [if_neg (by omega),if_neg (by omega)]
theorem aLQ {z:Int} (h:z=0):sgZ z=0:=by unfold sgZ;rw [if_pos h]
section
attribute [local irreducible] aB pb bL bK
theorem iV (G:Imm) (neg:Bool) (a:Option Addr) (n c:Nat) (hn:n≤1099511627776) :
 Does Tryz.prog 133 [.bool neg,.slice a n c] G [] (fun v G' Ho=>v=.agg #[.bool (neg && decide (0<n)),.slice a n c]∧G'=G∧Ho=[]):=by
 refine D0 Tryz.func133 Tryz.ntmps133 fun w=>?_
 have e:((0:Int)<(n:Int))=(0<n):=by rw [eq_iff_iff];omega
 cases neg
 · refine Wc.gl 2 [] ?_
   refine Wl.alloc 0 rfl T.zero125 fun b1=>?_
   refine Wl.gl 11 [] ?_
   refine Wl.p (Qy.build (cs:=[_,_]) T.st125 rfl rfl rfl) ?_
   refine Wl.ga 4 [0] ?_
   refine aT (.inr rfl) (Ho:=Hp.only _ []) rfl (.agg 0 rfl rfl T.agg125) (aC _ _) ?_
   exact ⟨by simp only [Bool.false_and],rfl,rfl⟩
 refine Wc.gl 2 [] ?_
 refine Wl.alloc 0 rfl T.zero125 fun b1=>?_
 refine Wl.gl 14 [] ?_
 refine Wl.p (Qy.build (cs:=[_,_]) T.st125 rfl rfl rfl) ?_
 refine Wl.ga 4 [0] ?_
 refine aT (.inr rfl) (Ho:=Hp.only _ []) rfl (.agg 0 rfl rfl T.agg125) (aC _ _) ?_
 exact ⟨by simp only [e,Bool.true_and],rfl,rfl⟩
theorem c139 (G:Imm) (neg:Bool) (a:Option Addr) (c:Nat) (l:List U32) (ha:Arr G a l) (hd:Lims l) (hb:l.length≤1073741824) (hc:l.length≤c) :
 Does Tryz.prog 139 [.bool neg,.slice a l.length c] G [] (fun v G' Ho=>∃ r:IV,v=.agg (Cells.enc r).toArray∧Big G' r (if neg=true then -aB l else aB l)∧Ho=[]):=by
 refine D0 Tryz.func139 Tryz.ntmps139 fun w=>?_
 refine Wc.gl 2 [] ?_
 refine Wl.alloc 0 rfl T.zero125 fun b1=>?_
 refine Wl.gl 6 [] ?_
 refine Wl.k 1 rfl (c185 _ _ _ _ ‹_› (by first | omega | (simp only [List.length_cons,List.length_nil];omega)) (by first | omega | (simp only [List.length_cons,List.length_nil];omega))) fun v1 G1 Ho1 hle1 hp=>?_
 obtain ⟨na1,nm1,rfl,hna1,hne1,hnt1,hnl1,rfl⟩:=hp
 replace ha:=ha.up hle1
 refine Wl.k0 rfl (iV _ _ _ _ _ (by omega)) ?_
 refine Wl.ga 4 [0] ?_
 refine aT (.inr rfl) (Ho:=Hp.only _ []) rfl (.agg 0 rfl rfl T.agg125) (aC _ _) ?_
 refine ⟨⟨neg && decide (0<nm1.length),na1,nm1.length,nm1.length⟩,rfl,Big.make neg hna1 (eS hne1 hd) (mR hne1 hnt1) (Nat.le_refl _) (by rw [fA hne1 hnt1]),rfl⟩
theorem c180 (G:Imm) (neg:Bool) (a:Option Addr) (c:Nat) (l:List U32) (z:Int) (h:IsBig neg l z) (h1:l.length≤1073741824) :
 Does Tryz.prog 180 [.agg #[.bool neg,.slice a l.length c]] G [] (fun v G' Ho=>v=.int .i64 (sgZ z)∧G'=G∧Ho=[]):=by
 have hz:=h.zero_iff
 have hn:=h.neg_iff
 refine D0 Tryz.func180 Tryz.ntmps180 fun w=>?_
 by_cases h0:l.length=0
 · have hz0:=hz.1 h0
   refine Wc.gl 2 [] ?_
   refine Wl.x 0 fun b1=>?_
   refine Wl.ga 23 [0,1] ?_
   refine Ar.e1 ?_
   exact ⟨by rw [hz0];rfl,rfl,rfl⟩
 have hz0:z≠0:=fun e=>h0 (hz.2 e)
 by_cases hs:z<0
 · rw [hn,decide_eq_true hs]
   refine Wc.gl 2 [] ?_
   refine Wl.x 0 fun b1=>?_
   refine Wl.ga 31 [0,0,0,1] ?_
   refine Ar.e1 ?_
   exact ⟨by unfold sgZ;rw [if_neg hz0,if_pos hs],rfl,rfl⟩
 rw [hn,decide_eq_false hs]
 refine Wc.gl 2 [] ?_
 refine Wl.x 0 fun b1=>?_
 refine Wl.ga 32 [0,0,0,0] ?_
 refine Ar.e1 ?_
 exact ⟨by unfold sgZ;rw [if_neg hz0,if_neg hs],rfl,rfl⟩
theorem c176 (G:Imm) (x:IV) (z:Int) (hx:Big G x z) (h1:x.n≤1073741824) :
 Does Tryz.prog 176 [.agg (Cells.enc x).toArray] G [] (fun v G' Ho=>∃ r:IV,v=.agg (Cells.enc r).toArray∧Big G' r (-z)∧G'=G∧Ho=[]):=by
 obtain ⟨neg,a,n,c⟩:=x
 obtain ⟨l,hl,hlc,hA,hI⟩:=hx
 simp only at hl hlc hA hI h1
 subst hl
 show Does Tryz.prog 176 [.agg #[.bool neg,.slice a l.length c]] G [] _
 refine D0 Tryz.func176 Tryz.ntmps176 fun w=>?_
 refine Wc.gl 2 [] ?_
 refine Wl.x 0 fun b1=>?_
 refine Wl.alloc 1 rfl T.zero125 fun b2=>?_
 refine Wl.gl 9 [0,0] ?_
 refine Wl.k0 rfl (iV _ _ _ _ _ (by omega)) ?_
 refine Wl.ga 4 [1] ?_
 refine aT (.inr rfl) (Ho:=Hp.only _ []) rfl (.agg 1 rfl rfl T.agg125) (aC _ _) ?_
 refine ⟨⟨!neg && decide (0<l.length),a,l.length,c⟩,rfl,Big.make (!neg) hA hI.digs hI.top hlc ?_,rfl,rfl⟩
 rw [hI.val];cases neg <;> simp
theorem c223 (G:Imm) (x:IV) (z:Int) (hx:Big G x z) (h1:x.n≤1073741824) :
 Does Tryz.prog 223 [.agg (Cells.enc x).toArray] G [] (fun v G' Ho=>∃ r:IV,v=.agg (Cells.enc r).toArray∧Big G' r (z.natAbs:Int)∧G'=G∧Ho=[]):=by
 obtain ⟨neg,a,n,c⟩:=x
 obtain ⟨l,hl,hlc,hA,hI⟩:=hx
 simp only at hl hlc hA hI h1
 subst hl
 show Does Tryz.prog 223 [.agg #[.bool neg,.slice a l.length c]] G [] _
 refine D0 Tryz.func223 Tryz.ntmps223 fun w=>?_
 refine Wc.gl 2 [] ?_
 refine Wl.x 0 fun b1=>?_
 refine Wl.alloc 1 rfl T.zero125 fun b2=>?_
 refine Wl.gl 6 [0] ?_
 refine Wl.k0 rfl (iV _ _ _ _ _ (by omega)) ?_
 refine Wl.ga 4 [1] ?_
 refine aT (.inr rfl) (Ho:=Hp.only _ []) rfl (.agg 1 rfl rfl T.agg125) (aC _ _) ?_
 refine ⟨⟨false && decide (0<l.length),a,l.length,c⟩,rfl,Big.make false hA hI.digs hI.top hlc ?_,rfl,rfl⟩
 rw [if_neg (by decide),hI.abs]
theorem aBG (G:Imm) (x:IV) (z:Int) (hx:Big G x z) (h1:x.n≤1073741824) :
 Does Tryz.prog 180 [.agg (Cells.enc x).toArray] G [] (fun v G' Ho=>v=.int .i64 (sgZ z)∧G'=G∧Ho=[]):=by
 obtain ⟨n1,a,k1,ca⟩:=x
 obtain ⟨la,hl,hlc,hA,hI⟩:=hx
 simp only at hl hlc hA hI h1
 subst hl
 exact c180 G n1 a ca la z hI h1
theorem c137 (G:Imm) (x y:IV) (zx zy:Int) (hx:Big G x zx) (hy:Big G y zy) (h1:x.n≤1073741824) (h2:y.n≤1073741824) :
 Does Tryz.prog 137 [.agg (Cells.enc x).toArray,.agg (Cells.enc y).toArray] G [] (fun v G' Ho=>v=.int .i64 (bL zx zy)∧G'=G∧Ho=[]):=by
 obtain ⟨n1,a,k1,ca⟩:=x
 obtain ⟨n2,b,k2,cb⟩:=y
 obtain ⟨la,hl,hlc,hA,hI⟩:=hx
 obtain ⟨lb,hl',hlc',hA',hI'⟩:=hy
 simp only at hl hlc hA hI hl' hlc' hA' hI' h1 h2
 subst hl hl'
 have da:=hI.digs
 have db:=hI'.digs
 have ta:=hI.top
 have tb:=hI'.top
 have va:=hI.abs
 have vb:=hI'.abs
 have na:=hI.neg_iff
 have nb:=hI'.neg_iff
 have cs:∀ u v:Int,u<v→bL u v=-1:=fun u v h=>iC h
 have cg:∀ u v:Int,v<u→bL u v=1:=fun u v h=>iU h
 show Does Tryz.prog 137 [.agg #[.bool n1,.slice a la.length ca],.agg #[.bool n2,.slice b lb.length cb]] G [] _
 refine D0 Tryz.func137 Tryz.ntmps137 fun w=>?_
 by_cases sx:zx<0 <;> by_cases sy:zy<0
 · rw [na,nb,decide_eq_true sx,decide_eq_true sy]
   refine Wc.gl 2 [] ?_
   refine Wl.x 0 fun b1=>?_
   refine Wl.x 1 fun b2=>?_
   refine Wl.gl 25 [0,1,1,1,0] ?_
   refine Wl.k0 rfl (aBC _ _ _ _ _ _ _ ‹_› ‹_› ‹_› ‹_› (by omega) (by omega) (by omega) (by omega)) ?_
   refine Wl.ga 6 [] ?_
   refine Ar.e1 ?_
   exact ⟨by rw [lO (x:=aB lb) (y:=aB la) (u:=zx) (v:=zy) (by omega) (by omega)],rfl,rfl⟩
 · rw [na,nb,decide_eq_true sx,decide_eq_false sy]
   refine Wc.gl 2 [] ?_
   refine Wl.x 0 fun b1=>?_
   refine Wl.x 1 fun b2=>?_
   refine Wl.ga 35 [0,1,0,0,1] ?_
   refine Ar.e1 ?_
   exact ⟨by rw [cs zx zy (by omega)],rfl,rfl⟩
 · rw [na,nb,decide_eq_false sx,decide_eq_true sy]
   refine Wc.gl 2 [] ?_
   refine Wl.x 0 fun b1=>?_
   refine Wl.x 1 fun b2=>?_
   refine Wl.ga 41 [0,0,0,0,1,1] ?_
   refine Ar.e1 ?_
   exact ⟨by rw [cg zx zy (by omega)],rfl,rfl⟩
 rw [na,nb,decide_eq_false sx,decide_eq_false sy]
 refine Wc.gl 2 [] ?_
 refine Wl.x 0 fun b1=>?_
 refine Wl.x 1 fun b2=>?_
 refine Wl.gl 42 [0,0,0,0,1,0,0,1] ?_
 refine Wl.k0 rfl (aBC _ _ _ _ _ _ _ ‹_› ‹_› ‹_› ‹_› (by omega) (by omega) (by omega) (by omega)) ?_
 refine Wl.ga 4 [] ?_
 refine Ar.e1 ?_
 exact ⟨by rw [lO (x:=aB la) (y:=aB lb) (u:=zx) (v:=zy) (by omega) (by omega)],rfl,rfl⟩
theorem c75 (G:Imm) (x y:IV) (zx zy:Int) (hx:Big G x zx) (hy:Big G y zy) (h1:x.n≤536870912) (h2:y.n≤536870912) :
 Does Tryz.prog 75 [.agg (Cells.enc x).toArray,.agg (Cells.enc y).toArray] G [] (fun v G' Ho=>∃ r:IV,v=.agg (Cells.enc r).toArray∧Big G' r (zx*zy)∧Ho=[]):=by
 obtain ⟨n1,a,k1,ca⟩:=x
 obtain ⟨n2,b,k2,cb⟩:=y
 obtain ⟨la,hl,hlc,hA,hI⟩:=hx
 obtain ⟨lb,hl',hlc',hA',hI'⟩:=hy
 simp only at hl hlc hA hI hl' hlc' hA' hI' h1 h2
 subst hl hl'
 have da:=hI.digs
 have db:=hI'.digs
 have ta:=hI.top
 have tb:=hI'.top
 show Does Tryz.prog 75 [.agg #[.bool n1,.slice a la.length ca],.agg #[.bool n2,.slice b lb.length cb]] G [] _
 refine D0 Tryz.func75 Tryz.ntmps75 fun w=>?_
 refine Wc.gl 2 [] ?_
 refine Wl.x 0 fun b1=>?_
 refine Wl.x 1 fun b2=>?_
 refine Wl.alloc 2 rfl T.zero125 fun b3=>?_
 refine Wl.gc 3 [] ?_
 refine aN [0,1,2] [(2,11)] T.mixed [[0],[1,0],[2],[3,1]] ?_
 refine Gm.u 4 [] rfl (pB T.u4 rfl rfl) ?_
 refine Gm.r [[5],[6,0],[7],[8,1]] ?_
 refine Gm.o1 9 ?_
 refine Wl.k 3 rfl (c134 _ _ _ _ _ _ _ ‹_› ‹_› ‹_› ‹_› (by omega) (by omega)) fun v1 G1 Ho1 hle1 hp=>?_
 obtain ⟨⟨ra1,rm1,rfl,hra1,hrl1,hrt1,hrv1,hrn1⟩,rfl⟩:=hp
 replace hA:=hA.up hle1
 replace hA':=hA'.up hle1
 refine Wl.o1 10 ?_
 refine Wl.k0 rfl (iV _ _ _ _ _ (by omega)) ?_
 refine Wl.o1 11 ?_
 refine aA 1 [2] ?_
 refine aZ ?_
 refine Ar.ga 2 [] ?_
 refine aT (.inr rfl) (Ho:=Hp.only _ []) rfl (.agg 2 rfl rfl T.agg125) (aC _ _) ?_
 refine ⟨⟨decide (n1≠n2) && decide (0<rm1.length),ra1,rm1.length,rm1.length⟩,rfl,Big.make (decide (n1≠n2)) hra1 hrl1 hrt1 (Nat.le_refl _) ?_,rfl⟩
 rw [hrv1,hI.val,hI'.val]
 cases n1 <;> cases n2 <;> simp [Int.neg_mul,Int.mul_neg]
end
end Go.Proofs.YtfdcckcadfhpeaaGreatDoor
