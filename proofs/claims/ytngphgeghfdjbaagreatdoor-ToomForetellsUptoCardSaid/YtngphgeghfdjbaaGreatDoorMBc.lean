/- sN of the proof (part 3): what the rows' text needs of the texts that lead to it. -/
import Derived.Test.YtngphgeghfdjbaaGreatDoorMBb
set_option linter.unusedVariables false
set_option linter.unusedSimpArgs false
set_option linter.unusedSectionVars false
set_option maxHeartbeats 4000000
set_option maxRecDepth 100000
namespace Go.Sl
open Go
theorem Lo (P s:Int):P*(s % 4294967296)+4294967296*P*(s / 4294967296)=P*s:=by
 have h:=gV s 4294967296
 have e:4294967296*P*(s / 4294967296)=P*(4294967296*(s / 4294967296)):=by rw [cQ 4294967296 P,dL]
 rw [e,←bT,h]
def lg (l:List U32) (i:Nat):Int:=(l[((i:Nat):Int).toNat]?.getD default).v
theorem wN {l:List U32} (h:Lims l) {i:Nat} (hi:i<l.length):0≤lg l i∧lg l i<4294967296:=h.at qX
theorem yC {l:List U32} {i:Nat} (hi:l.length≤i):lg l i=0:=by
 unfold lg;rw [aN,cJ hi];rfl
theorem sV {l:List U32} (h:Lims l) (i:Nat):0≤lg l i∧lg l i<4294967296:=by
 rcases aR i l.length with h1 | h1
 · exact wN h h1
 rw [yC h1];decide
theorem zG {l:List U32} {i:Nat} (h:i<l.length) (d:Int):lg (l.set i ⟨d⟩) i=d:=by
 unfold lg
 rw [aN,aD (by rw [aI];exact h),List.getElem_set_self];rfl
theorem uU {l:List U32} {i j:Nat} (h:i≠j) (d:U32):lg (l.set i d) j=lg l j:=by
 unfold lg
 rw [aN,List.getElem?_set_ne h]
theorem rZ (l:List U32) (i:Nat):qZ (l.take (i+1))=qZ (l.take i)+pb i*lg l i:=by
 rcases aR i l.length with h | h
 · exact yB h
 rw [rQ h,rQ qX,yC h,dJ,gL]
theorem tN {l:List U32} {i:Nat} (h:i<l.length):qZ (l.drop i)=lg l i+4294967296*qZ (l.drop (i+1)):=by
 rw [gW h,sK]
 unfold lg
 rw [aN,aD h];rfl
theorem vZ (l:List U32) {m:Nat} (h:m≤l.length):qZ l=qZ (l.take m)+pb m*qZ (l.drop m):=by
 have h1:qZ l=qZ (l.take m++l.drop m):=by rw [dC]
 rw [h1,sI,bJ,eM h]
theorem wZ:∀ (l:List U32) (k:Nat) (d:U32),k<l.length→qZ (l.set k d)=qZ l+pb k*(d.v - lg l k)
 | [],k,d,h=>by simp at h
 | x :: l,0,d,_=>by
   rw [List.set_cons_zero,sK,sK,Dt]
   show _=_+1*(d.v - x.v)
   omega
 | x :: l,k+1,d,h=>by
   have ih:=wZ l k d (by simpa using h)
   have e:lg (x :: l) (k+1)=lg l k:=by unfold lg;rw [aN,aN,gB]
   rw [List.set_cons_succ,sK,sK,ih,tZ,e,bT,←dL]
   omega
theorem rS {l:List U32} (h:Lims l) (k:Nat) {s:Int} (hs:0≤s∧s<4294967296):Lims (l.set k ⟨s⟩):=fun d hd=>by
 rcases kB hd with h1 | h1
 · exact h d h1
 subst h1;exact hs
theorem yZ (s:Int):0≤s % 4294967296∧s % 4294967296<4294967296:=⟨iY _ rI,dM _ rI⟩
def Trim (l:List U32) (n:Nat):Prop:=n≤l.length∧(∀ j,n≤j→j<l.length→(l[j]?.getD default).v=0)∧(n=0∨(l[n - 1]?.getD default).v≠0)
theorem Trim.val {l:List U32} {n:Nat} (h:Trim l n):qZ (l.take n)=qZ l:=Ux h.2.1
theorem Trim.top {l:List U32} {n:Nat} (h:Trim l n):Top (l.take n):=by
 obtain ⟨h1,h2,h3⟩:=h
 rcases h3 with h3 | h3
 · subst h3;exact .inl rfl
 by_cases h0:n=0
 · subst h0;exact .inl rfl
 refine .inr ?_
 rw [bJ,eM h1,gR,aT (by omega)]
 exact h3
theorem Fj {α:Type} [Cells α] {G:Imm} {a:Option Addr} {c sz:Nat} {l:List α} (h:Arr G a l) (n:Nat):Arr G (subA a c 0 sz) (l.take n):=by
 refine ⟨rK _,?_⟩
 rcases h.2 with h0 | ⟨b,o,rfl,hr⟩
 · left;rw [bJ];omega
 refine .inr ⟨b,o,?_,fun i v hi=>hr i v ?_⟩
 · unfold subA
   split
   · rfl
   simp [Addr.add]
 have e:rO l=rO (l.take n)++rO (l.drop n):=by rw [←uA,dC]
 rw [e,bE (aJ.1 hi).1];exact hi
theorem Ah {la lb r:List U32} {i:Nat} {cy s:Int} (hi:i<r.length) (hv:qZ (la.take i)+qZ (lb.take i)=qZ (r.take i)+pb i*cy) (hs:s=cy+lg la i+lg lb i) :
 qZ (la.take (i+1))+qZ (lb.take (i+1))=qZ ((r.set i ⟨s % 4294967296⟩).take (i+1))+pb (i+1)*(s / 4294967296):=by
 rw [rZ,rZ,rZ (r.set i _),zG hi,kD (aE i),tZ]
 have h:=Lo (pb i) s
 rw [hs,bT,bT] at h
 rw [←hs] at h
 omega
theorem Ai {la lb r:List U32} {i:Nat} {cy cy' s:Int} (hi:i<r.length) (hv:qZ (la.take i) - qZ (lb.take i)=qZ (r.take i) - pb i*cy) (hs:s=lg la i - lg lb i - cy+4294967296*cy') :
 qZ (la.take (i+1)) - qZ (lb.take (i+1))=qZ ((r.set i ⟨s⟩).take (i+1)) - pb (i+1)*cy':=by
 rw [rZ,rZ,rZ (r.set i _),zG hi,kD (aE i),tZ]
 have h:pb i*s=pb i*lg la i - pb i*lg lb i - pb i*cy+4294967296*pb i*cy':=by
  rw [hs,bT,kV,kV,←dL,cQ (pb i) 4294967296]
 omega
theorem DW {la lb r:List U32} {n:Nat} {cy:Int} (hn:n=la.length) (hb:lb.length≤la.length) (hle:qZ lb≤qZ la) (hri:r.length=n) (hd:Lims r) (hc:0≤cy∧cy≤1) (hv:qZ (la.take n) - qZ (lb.take n)=qZ (r.take n) - pb n*cy):qZ r=qZ la - qZ lb:=by
 rw [rQ qX,rQ qX,rQ qX] at hv
 have h:=tC hd
 rw [hri] at h
 have hcy:cy=0:=by
  rcases (show cy=0∨cy=1 by omega) with h1 | h1
  · exact h1
  rw [h1,iM] at hv;omega
 rw [hcy,dJ] at hv
 omega
theorem Va {r lb:List U32} {i j:Nat} {c s x A:Int} (hk:i+j<r.length) (hv:qZ r+pb (i+j)*c=A+pb i*(x*qZ (lb.take j))) (hs:s=c+(x*lg lb j+lg r (i+j))) :
 qZ (r.set (i+j) ⟨s % 4294967296⟩)+pb (i+(j+1))*(s / 4294967296)=A+pb i*(x*qZ (lb.take (j+1))):=by
 rw [wZ r (i+j) ⟨s % 4294967296⟩ hk,rZ,←nW,tZ]
 have h1:=Lo (pb (i+j)) s
 have h2:pb (i+j)*s=pb (i+j)*c+(pb (i+j)*(x*lg lb j)+pb (i+j)*lg r (i+j)):=by rw [hs,bT,bT]
 have h3:pb i*(x*(qZ (lb.take j)+pb j*lg lb j))=pb i*(x*qZ (lb.take j))+pb (i+j)*(x*lg lb j):=by
  rw [bT,bT,Qg]
  congr 1
  rw [dL,←dL x,cQ x (pb j),dL]
 have h4:pb (i+j)*(s % 4294967296 - lg r (i+j))=pb (i+j)*(s % 4294967296) - pb (i+j)*lg r (i+j):=kV _ _ _
 show qZ r+pb (i+j)*(s % 4294967296 - lg r (i+j))+4294967296*pb (i+j)*(s / 4294967296)=_
 rw [h3,h4]
 omega
theorem Yj {la lb r:List U32} {i:Nat} {c:Int} (hk:i+lb.length<r.length) (hz:lg r (i+lb.length)=0) (hv:qZ r+pb (i+lb.length)*c=qZ (la.take i)*qZ lb+pb i*(lg la i*qZ (lb.take lb.length))) :
 qZ (r.set (i+lb.length) ⟨c⟩)=qZ (la.take (i+1))*qZ lb:=by
 rw [wZ r _ _ hk,hz,rQ (aE _)] at *
 show qZ r+pb (i+lb.length)*(c - 0)=_
 rw [oJ,hv,rZ,mI,dL]
theorem xK {x y:Int} (hx:0≤x∧x<4294967296) (hy:0≤y∧y<4294967296):0≤x*y∧x*y≤18446744065119617025:=by
 refine ⟨jP hx.1 hy.1,?_⟩
 have h1:x*y≤4294967295*y:=eS qX hy.1
 omega
theorem Nr {la q:List U32} {i:Nat} {r B:Int} (hi:i<la.length) (hq:i<q.length) (hv:qZ (la.drop (i+1))=qZ (q.drop (i+1))*B+r) :
 qZ (la.drop i)=qZ ((q.set i ⟨(r*4294967296+lg la i) / B⟩).drop i)*B+(r*4294967296+lg la i) % B:=by
 rw [tN hi,tN (l:=q.set i _) (by rw [aI];exact hq),zG hq,List.drop_set_of_lt qX,hv]
 have h:=gV (r*4294967296+lg la i) B
 rw [mI,cQ ((r*4294967296+lg la i) / B) B,dL 4294967296,bT]
 omega
theorem Vb {r a B:Int} (hr:0≤r∧r<B) (ha:0≤a∧a<4294967296):0≤(r*4294967296+a) / B∧(r*4294967296+a) / B<4294967296:=by
 refine ⟨mK qX qX,lI qX ?_⟩
 have h1:=eS (show r+1≤B by omega) (show (0:Int)≤4294967296 by decide)
 rw [cQ 4294967296 B]
 omega
theorem Yk {lb:List U32} (h:lb.length=1):qZ lb=lg lb 0:=by
 match lb,h with
 | [d],_=>rw [yA];rfl
theorem Yl {x y:U32} (h:x.v=y.v):x=y:=by cases x;cases y;simp only at h;rw [h]
theorem Fk {la lb:List U32} {k:Nat} (hn:la.length=lb.length) (h:∀ j,k≤j→j<la.length→lg la j=lg lb j):la.drop k=lb.drop k:=by
 refine eW fun i=>?_
 rw [fF,fF]
 rcases aR (k+i) la.length with h1 | h1
 · have h2:=h (k+i) qX h1
   unfold lg at h2
   rw [aN] at h2
   rw [aD h1,aD qX] at h2 ⊢
   exact congrArg some (Yl h2)
 rw [cJ h1,cJ qX]
theorem Ns {la lb:List U32} {k:Nat} (hn:la.length=lb.length) (hk:k<la.length) (da:Lims la) (db:Lims lb) (h:∀ j,k+1≤j→j<la.length→lg la j=lg lb j) (hlt:lg la k<lg lb k):qZ la<qZ lb:=by
 have e:=Fk hn h
 have h1:=vZ la (show k+1≤la.length by omega)
 have h2:=vZ lb (show k+1≤lb.length by omega)
 rw [e] at h1
 rw [rZ] at h1 h2
 have h3:=tC (da.take k)
 rw [bJ,eM qX] at h3
 have h4:=rR (db.take k)
 have h5:=bD (show lg la k+1≤lg lb k by omega) (cB (uK k))
 rw [bT,iM] at h5
 omega
theorem Ym {p Ul U3 Vl V2 g:Int} (hp:0<p) (hUl:Ul<p) (hVl:0≤Vl) (hg:0≤g) (h:U3<g*V2):Ul+p*U3<g*(Vl+p*V2):=by
 have h1:=bD (show U3+1≤g*V2 by omega) (cB hp)
 have h2:=jP hg hVl
 rw [bT,iM] at h1
 rw [bT,dK g p]
 omega
theorem DX {p Ul U3 Vl V2 g:Int} (hp:0<p) (hUl:0≤Ul) (hVl:0≤Vl∧Vl<p) (hg:0≤g∧g<4294967296) (hV2:4294967296≤V2) (h:g*V2≤U3):(g - 1)*(Vl+p*V2)≤Ul+p*U3:=by
 have h1:=bD h (cB hp)
 have h2:=bD (cB hVl.2) hg.1
 have h3:=eS (cB hg.2) (cB hp)
 have h4:=bD hV2 (cB hp)
 rw [pB,fZ,bT,dK g p]
 rw [cQ p 4294967296] at h4
 omega
theorem Yn {g v1 v2 high rest u2:Int} (h:g*v1+rest=high):g*(v2+4294967296*v1) - (u2+4294967296*high)=g*v2 - (rest*4294967296+u2):=by
 rw [bT,dK g 4294967296,←h]
 omega
theorem Yo {g v1 high rest:Int} (h:g*v1+rest=high) (hr:4294967296≤rest) (hv:0<v1) (hh:high<v1*4294967296+4294967296):g<4294967296:=by
 rcases Int.lt_or_le g 4294967296 with h1 | h1
 · exact h1
 have h2:=eS h1 (cB hv)
 omega
section
variable {u v:List U32} {m:Nat}
theorem DY (hu:u.length=m+3):qZ u=qZ (u.take m)+pb m*(lg u m+4294967296*(lg u (m+2)*4294967296+lg u (m+1))):=by
 have h0:=vZ u (show m≤u.length by omega)
 rw [tN (l:=u) (i:=m) qX,tN (l:=u) (i:=m+1) qX,tN (l:=u) (i:=m+1+1) qX,eC (show u.length≤m+1+1+1 by omega),rW] at h0
 rw [h0]
 congr 2
 show lg u m+4294967296*(lg u (m+1)+4294967296*(lg u (m+2)+4294967296*0))=_
 omega
theorem Yp (hv:v.length=m+2):qZ v=qZ (v.take m)+pb m*(lg v m+4294967296*lg v (m+1)):=by
 have h0:=vZ v (show m≤v.length by omega)
 rw [tN (l:=v) (i:=m) qX,tN (l:=v) (i:=m+1) qX,eC (show v.length≤m+1+1 by omega),rW] at h0
 rw [h0]
 congr 2
 omega
theorem uM {l:List U32} (d:Lims l) (h:m≤l.length):0≤qZ (l.take m)∧qZ (l.take m)<pb m:=by
 have h1:=tC (d.take m)
 rw [bJ,eM h] at h1
 exact ⟨rR (d.take m),h1⟩
variable (hu:u.length=m+3) (hv:v.length=m+2) (du:Lims u) (dv:Lims v)
include hu hv du dv
theorem Yq {g rest high:Int} (hh:high=lg u (m+2)*4294967296+lg u (m+1)) (h1:0<lg v (m+1)) (hg:g=high / lg v (m+1)) (hr:rest=high % lg v (m+1)) :
 g*lg v (m+1)+rest=high∧0≤g∧0≤rest∧rest<lg v (m+1)∧qZ u<(g+1)*qZ v:=by
 have a1:=sV du (m+2)
 have a2:=sV du (m+1)
 have a3:=sV du m
 have a4:=sV dv m
 have hn:0≤high:=qX
 have e1:=gV high (lg v (m+1))
 have e2:=dM high h1
 have e3:=iY high (show lg v (m+1)≠0 by omega)
 have e4:=mK hn (cB h1)
 rw [←hg,←hr] at e1
 rw [←hr] at e2 e3
 rw [←hg] at e4
 rw [cQ] at e1
 refine ⟨by omega,e4,e3,e2,?_⟩
 rw [DY hu,Yp hv,←hh]
 refine Ym (uK m) (uM du qX).2 (uM dv qX).1 qX ?_
 have e5:(g+1)*lg v (m+1)=g*lg v (m+1)+lg v (m+1):=by rw [mI,fZ]
 have e6:=jP (show 0≤g+1 by omega) a4.1
 rw [bT,dK (g+1) 4294967296,e5]
 omega
theorem HI {g rest high:Int} (hh:high=lg u (m+2)*4294967296+lg u (m+1)) (h:g*lg v (m+1)+rest=high) (hg:0≤g) (hc:rest*4294967296+lg u m<g*lg v m):qZ u<g*qZ v:=by
 have e:=Yn (v2:=lg v m) (u2:=lg u m) h
 rw [DY hu,Yp hv,←hh]
 exact Ym (uK m) (uM du qX).2 (uM dv qX).1 hg qX
theorem Yr {g rest high:Int} (hh:high=lg u (m+2)*4294967296+lg u (m+1)) (h:g*lg v (m+1)+rest=high) (hg:0≤g∧g<4294967296) (h1:1≤lg v (m+1)) (hc:g*lg v m≤rest*4294967296+lg u m):(g - 1)*qZ v≤qZ u:=by
 have e:=Yn (v2:=lg v m) (u2:=lg u m) h
 have a4:=sV dv m
 rw [DY hu,Yp hv,←hh]
 exact DX (uK m) (uM du qX).1 (uM dv qX) hg qX qX
end
theorem vR {u v w:List U32} {i:Nat} {t c c' b b' s:Int} (hi:i<w.length) (hv:qZ (u.take i) - t*qZ (v.take i)=qZ (w.take i) - pb i*(b+c)) (hc:c'=c+lg v i*t)
 (hs:s=lg u i - c' % 4294967296 - b+4294967296*b') :
 qZ (u.take (i+1)) - t*qZ (v.take (i+1))=qZ ((w.set i ⟨s⟩).take (i+1)) - pb (i+1)*(b'+c' / 4294967296):=by
 rw [rZ,rZ,rZ (w.set i _),zG hi,kD (aE i),tZ]
 have h1:=Lo (pb i) c'
 have h2:pb i*c'=pb i*c+t*(pb i*lg v i):=by rw [hc,bT,cQ (lg v i) t,dK t]
 have h3:pb i*s=pb i*lg u i - pb i*(c' % 4294967296) - pb i*b+4294967296*pb i*b':=by
  rw [hs,bT,kV,kV,←dL,cQ (pb i) 4294967296]
 rw [bT] at hv
 rw [bT t,bT (4294967296*pb i)]
 omega
theorem Qk {c x t:Int} (hc:0≤c∧c<4294967296) (hx:0≤x∧x<4294967296) (ht:0≤t∧t<4294967296):0≤c+x*t∧c+x*t<18446744073709551616∧0≤(c+x*t) / 4294967296∧(c+x*t) / 4294967296<4294967296∧0≤x*t∧x*t≤18446744065119617025:=by
 have h:=xK hx ht
 omega
theorem Ys {u v w z:List U32} {n:Nat} {g c:Int} (hu:qZ w=qZ u - g*qZ v+pb n) (hlow:(g - 1)*qZ v≤qZ u) (hup:qZ u<g*qZ v) (hw:w.length=n) (hz:z.length=n) (hvn:qZ v<pb n) (hvl:v.length≤n) (dz:Lims z) (hc:0≤c∧c≤1)
 (hs:qZ (w.take n)+qZ (v.take n)=qZ (z.take n)+pb n*c):qZ z=qZ u - (g - 1)*qZ v:=by
 rw [rQ qX,rQ qX,rQ qX] at hs
 have h1:=rR dz
 have h2:=tC dz
 rw [hz] at h2
 have e:(g - 1)*qZ v=g*qZ v - qZ v:=by rw [pB,fZ]
 have hc1:c=1:=by
  rcases (show c=0∨c=1 by omega) with h | h
  · rw [h,dJ] at hs;omega
  exact h
 rw [hc1,iM] at hs
 omega
theorem DZ (p w w' q:List U32) (h:w'.length=w.length):qZ (p++(w'++q))=qZ (p++(w++q))+pb p.length*(qZ w' - qZ w):=by
 rw [sI,sI,sI,sI,h,bT,bT,kV]
 omega
theorem Yt {A V q g:Int} {R R':Int} {l:List U32} {k:Nat} (hk:k<l.length) (hz:lg l k=0) (hA:A=qZ l*V+R) (hR:R'=R+pb k*(-(g*V))):A=qZ (l.set k ⟨g⟩)*V+R':=by
 rw [wZ l k _ hk,hz,hA,hR,oJ,mI,dL,Int.mul_neg]
 show _=qZ l*V+pb k*(g*V)+(R + -(pb k*(g*V)))
 omega
section
variable {P:Program} {ops:Array Oper} {rest:List Oper} {B:Bs} {e:Env} {D:List Deferred} {H:Hp} {G:Imm} {K:Act→World→Prop}
 {ty:TypeId} {pos:String} {after:Array Edge} {d:Nat}
theorem EA {p w q:List U32} {m:Int} (hm:0≤m∧m<w.length):(p++(w++q))[((p.length:Int)+m).toNat]?.getD default=w[m.toNat]?.getD default:=by
 have h1:((p.length:Int)+m).toNat=p.length+m.toNat:=qX
 rw [h1,cM qX,iJ,bE qX]
theorem EC {p w q:List U32} {m:Int} (hm:0≤m∧m<w.length) (z:U32):(p++(w++q)).set ((p.length:Int)+m).toNat z=p++(w.set m.toNat z++q):=by
 have h1:((p.length:Int)+m).toNat=p.length+m.toNat:=qX
 rw [h1,List.set_append_right _ _ qX,iJ,List.set_append_left _ _ qX]
theorem So {k:Nat} {m:Int} (hm:0≤m):k+m.toNat*1=0+((k:Int)+m).toNat*Cells.sz U32+0:=by
 show k+m.toNat*1=0+((k:Int)+m).toNat*1+0
 omega
theorem Yu {T:TypeId} {x:Operand} {b:Nat} {E:TypeId} {p w q:List U32} {junk:List Value} {m:Int} (t:Nat) (h1:sY P T=true) (hx:e.ev x=some (.pointer (some ⟨b,p.length+m.toNat*1,none⟩)))
 (ht:H.get t=some (some b,rP E (p++(w++q)) junk)) (hm:0≤m∧m<w.length):Qy P (.load T x) ty e H G (.int .u32 (w[m.toNat]?.getD default).v):=by
 rw [So hm.1] at hx
 refine Ng (m:=(p.length:Int)+m) t 0 h1 hx ht ⟨by omega,by rw [aQ,aQ];omega⟩ rfl ?_
 rw [EA hm];rfl
abbrev jL:=@Yu
theorem ED {T:TypeId} {x y:Operand} {b:Nat} {E:TypeId} {p w q:List U32} {junk:List Value} {m n:Int} (t:Nat) (hs:(P.info? T).map (·.size)=some 1)
 (hx:e.ev x=some (.pointer (some ⟨b,p.length+m.toNat*1,none⟩))) (hy:e.ev y=some (.int .u32 n)) (ht:H.get t=some (some b,rP E (p++(w++q)) junk)) (hm:0≤m∧m<w.length)
 (h:Wl P ops rest B ⟨e,D,(t,some b,rP E (p++(w.set m.toNat ⟨n⟩++q)) junk) :: H,G⟩ K):Wl P ops (⟨none,.store T x y,ty,pos,after,none⟩ :: rest) B ⟨e,D,H,G⟩ K:=by
 rw [So hm.1] at hx
 refine Sg (m:=(p.length:Int)+m) (z:=(⟨n⟩:U32)) t hs hx hy rfl ht ⟨by omega,by rw [aQ,aQ];omega⟩ ?_
 rw [EC hm];exact h
abbrev oF:=@ED
theorem Yv {T:TypeId} {x hi mx:Operand} {a:Option Addr} {n c E sz:Nat} {k k':IntKind} {m m':Int} (hT:rH P T E sz) (hx:e.ev x=some (.slice a n c)) (hh:e.ev hi=some (.int k m)) (hh':e.ev mx=some (.int k' m')) (h0:0≤m) (h1:m≤m') (h2:m'≤c) :
 Qy P (.slice T x none (some hi) (some mx)) ty e H G (.slice (subA a m'.toNat 0 sz) m.toNat m'.toNat):=fun ac w _ _ _ _ hk=>by
 have hr:=run_sizeOf (P:=P) w hT.2
 have hu:P.underlying T=some (.slice (P.elem T)):=by simp [Program.elem,hT.1]
 have he:P.elem T=E:=by simp [Program.elem,hT.1]
 have:=run_slice_hm (P:=P) (w:=w) T a n c hu k k' m m' h0 h1 h2
 simp only [execOp,hk.eval hx,dP,iV,hk.eval hh,hk.eval hh',aY,nL (P:=P) (w:=w) T _ _ _ _ hu,this,he,hr,aG,bB,sliced,subA,mS]
end
section
variable {P:Program} {ops:Array Oper} {rest:List Oper} {B:Bs} {e:Env} {D:List Deferred} {H:Hp} {G:Imm} {K:Act→World→Prop}
 {ty:TypeId} {pos:String} {after:Array Edge} {d:Nat} {α:Type} [Cells α]
theorem Nt {w:World} (hw:HoldH H G w) {T T2 E:Nat} (hT:rH P T E (Cells.sz α)) {t b:Nat} {ad:Option Addr} {c c2:Nat} {xs ys:List α} {junk:List Value}
 (ht:H.get t=some (some b,rP E xs junk)) (hsrc:Src H G ad ys) (hle:ys.length≤xs.length) :
 ∃ w',(Builtin.copy_ #[T,T2] ty #[.slice (some ⟨b,0,none⟩) xs.length c,.slice ad ys.length c2]).run P w=.ok (.int .i64 (ys.length:Int)) w'∧Upd (·=b) w w'∧w'.heap[b]?=some (rP E (ys++xs.drop ys.length) junk):=by
 have hb:=hw.own t b _ ht
 have hmin:Nat.min ys.length xs.length=ys.length:=eM hle
 cases hq:P.info? E with
 | none=>have:=hT.2;simp [hq] at this
 | some i =>
   have hi:i.size=Cells.sz α:=by have:=hT.2;simpa [hq] using this
   rcases hsrc w hw with ⟨rfl,rfl⟩ | ⟨src,rfl,hsr⟩
   · refine ⟨w,?_,jF _ _,by simpa using hb⟩
     have hm0:Nat.min (0:Nat) xs.length=0:=Nat.zero_min _
     simp [Builtin.copy_,aO hT.1,Builtin.lenOf,Builtin.firstCells,sizeOf,typeInfo,hq,storeCells,hm0,goInt]
   have hl:=kK (P:=P) w src (rO ys) hsr
   have hfy:(rO ys).length=ys.length*Cells.sz α:=rK ys
   have hfx:(rO xs).length=xs.length*Cells.sz α:=rK xs
   have hmul:=fJ (Cells.sz α) hle
   have hfit:0+0+(rO ys).length≤((rO xs++junk).toArray).size:=by
    rw [nP,aQ];omega
   have hst:=nK P b 0 E (rO ys) 0 (rO xs++junk).toArray w hb hfit (fun v hv=>dW.1 (Nf ys) v hv)
   refine ⟨_,?_,tA w b (((rO xs++junk).toArray.toList.take (0+0)++rO ys++(rO xs++junk).toArray.toList.drop (0+0+(rO ys).length)).toArray),?_⟩
   · rw [hfy] at hl
     simp [Builtin.copy_,aO hT.1,Builtin.lenOf,Builtin.firstCells,sizeOf,typeInfo,hq,hi,hmin,hl,hst,goInt]
   rw [mC w b _ _ E _ hb]
   have hsplit:rO xs=rO (xs.take ys.length)++rO (xs.drop ys.length):=by rw [←uA,dC]
   have htl:(rO (xs.take ys.length)).length=(rO ys).length:=by rw [rK,rK,bJ,eM hle]
   unfold rP
   rw [uA]
   simp only [gJ,bO,bY,fD]
   rw [hsplit,cV,←htl,List.drop_left,cV]
theorem Fl {x y:Operand} {T T2 E b:Nat} {ad:Option Addr} {c c2:Nat} {xs ys:List α} {junk:List Value} (t:Nat) (hn:Nat.ble (d+1) B.n=true) (hT:rH P T E (Cells.sz α))
 (hx:e.ev x=some (.slice (some ⟨b,0,none⟩) xs.length c)) (hy:e.ev y=some (.slice ad ys.length c2)) (ht:H.get t=some (some b,rP E xs junk)) (hsrc:Src H G ad ys) (hle:ys.length≤xs.length)
 (h:Wl P ops rest B ⟨(d,.int .i64 (ys.length:Int)) :: e,D,(t,some b,rP E (ys++xs.drop ys.length) junk) :: H,G⟩ K) :
 Wl P ops (⟨some d,.call { callee:=.builtin .copy,args:=#[x,y],argTypes:=#[T,T2] },ty,pos,after,none⟩ :: rest) B ⟨e,D,H,G⟩ K:=by
 refine qO (v:=.int .i64 (ys.length:Int)) (x:=.value (.int .i64 (ys.length:Int))) ht (.inr ⟨rfl,d,rfl,hn⟩) (fun a w hh=>?_) h
 obtain ⟨w',hrun,hu,hb⟩:=Nt (c:=c) (c2:=c2) (T2:=T2) (ty:=ty) hh.mem hT ht hsrc hle
 refine ⟨w',?_,hu,hb⟩
 simp only [execOp,resolve,invoke,builtin,aY,bB,aG,lO,bK,iQ,hh.eval hx,hh.eval hy,hrun]
end
theorem Yw {P:Program} {e:Env} {H:Hp} {G:Imm} {ty t t':TypeId} {x y:Operand} {m n:Int} (hx:e.ev x=some (.int .u64 m)) (hy:e.ev y=some (.int .u64 n)) (h0:m<n∧0≤m∧n≤18446744073709551615):Qy P (.binOp .sub t x y t') ty e H G (.int .u64 (m - n+18446744073709551616)):=by
 have h:=Do (P:=P) (H:=H) (G:=G) (ty:=ty) (t:=t) (t':=t') hx hy
 have e1:IntKind.u64.wrap (m - n)=m - n+18446744073709551616:=by rw [lV];omega
 rw [e1] at h;exact h
abbrev oV:=@Yw
theorem Fm {P:Program} {f:FuncId} {args:List Value} {G:Imm} {u:Value} (h:∀ w,Calls P f args.toArray w fun e w'=>e=.returned u∧w'=w):Does P f args G [] (fun v G' Ho=>v=u∧G'=G∧Ho=[]):=
 fun w hw=>(h w).mono fun e w' he=>by
  obtain ⟨rfl,rfl⟩:=he
  exact ⟨u,G,[],rfl,hw,cC G,jF _ _,fun b h1 h2=>absurd h2 h1,fun t b o ht=>by simp [Hp.get] at ht,rfl,rfl,rfl⟩
end Go.Sl
namespace Go.Proofs.YtngphgeghfdjbaaGreatDoor
open Go Go.Sl
def sG (x y:Int):Int:=if x<y then -1 else if y<x then 1 else 0
theorem Aj {x y:Int} (h:x<y):sG x y=-1:=aT h
theorem Dv {x y:Int} (h:y<x):sG x y=1:=by unfold sG;rw [aF (by omega),aT h]
theorem Lp {x y:Int} (h:x=y):sG x y=0:=by unfold sG;rw [aF (by omega),aF (by omega)]
theorem Fp {x y u v:Int} (h1:x<y↔u<v) (h2:y<x↔v<u):sG x y=sG u v:=by unfold sG;simp only [h1,h2]
theorem tO {l m:List U32} (he:m=l.take m.length) (ht:Trim l m.length):qZ m=qZ l:=by rw [he];exact ht.val
theorem yD {l m:List U32} (he:m=l.take m.length) (ht:Trim l m.length):Top m:=by rw [he];exact ht.top
theorem tH {l m:List U32} (he:m=l.take m.length) (hd:Lims l):Lims m:=by rw [he];exact hd.take _
section
attribute [local irreducible] qZ pb sG
theorem Dm (G:Imm) (a:Option Addr) (c:Nat) (l:List U32) (hl:Arr G a l) (hb:l.length≤1099511627776) (hc:l.length≤c) :
 Does Tryz.prog 150 [.slice a l.length c] G [] (fun v G' Ho=>∃ (b:Option Addr) (m:List U32),v=.slice b m.length m.length∧Arr G b m∧m=l.take m.length∧Trim l m.length∧m.length≤l.length∧G'=G∧Ho=[]):=by
 refine D0 Tryz.func150 Tryz.ntmps150 fun w=>?_
 refine cZ 14 [] ?_
 refine iE (ι:=Nat) (fun n=>([(3,.int .i64 (n:Int)),(2,.slice none 0 0),(0,.slice a (List.length l) c)],[])) (fun n=>n≤l.length∧(∀ j,n≤j→j<l.length→(l[j]?.getD default).v=0)) (fun n=>n) (l.length) (⟨aE _,fun j h1 h2=>absurd h2 qX⟩) fun n=>fun hk=>?_
 obtain ⟨hn,hz⟩:=hk
 have done:(n=0∨(l[n - 1]?.getD default).v≠0)→∃ (b:Option Addr) (m:List U32),Value.slice (subA a n 0 1) n n=.slice b m.length m.length∧Arr G b m∧m=l.take m.length∧Trim l m.length∧m.length≤l.length∧G=G∧([]:Hp)=[]:=fun ht=>by
  have e:(l.take n).length=n:=by rw [bJ,eM hn]
  refine ⟨subA a n 0 1,l.take n,by rw [e],Fj hl n,by rw [e],?_,by rw [e];exact hn,rfl,rfl⟩
  rw [e];exact ⟨hn,hz,ht⟩
 refine aM 6 [] ?_
 apply dT 7 8 15 rfl
 intro hg1
 refine aC 7 [] ?_
 refine eO (α:=U32) T.sl87 ?_
 refine aC 1 [] ?_
 refine iD 0 T.one166 ?_
 refine aC 3 [] ?_
 exact eL 7 0
 intro hg1
 refine aC 7 [] ?_
 exact eL 7 0
 refine bP 2 [] ?_
 refine eX (fun hc1=>?_) fun hc1=>?_
 refine bQ 9 [] ?_
 rotate_left
 refine aM 10 [] ?_
 refine aP (Yv T.sl87 rfl rfl rfl qX qX qX) ?_
 refine bA 4 [] ?_
 refine cI ?_
 rotate_left
 · refine cS 3 rfl (show _=Value.int .i64 ((n - 1:Nat):Int) by congr 1;omega) ?_
   refine dX (n - 1) ?_ ?_
   · refine ⟨by omega,fun j h1 h2=>?_⟩
     rcases aR j n with h3 | h3
     · have e:j=((n:Int) - 1).toNat:=qX
       rw [e];exact hc1.2
     exact hz j h3 h2
   omega
 refine done ?_
 rcases iO n with h | h
 · exact .inl h
 refine .inr fun h2=>hc1 ⟨by omega,?_⟩
 have e:((n:Int) - 1).toNat=n - 1:=qX
 rw [e];exact h2
theorem GH (G:Imm) (a b:Option Addr) (ca cb:Nat) (la lb:List U32) (ha:Arr G a la) (hb:Arr G b lb) (da:Lims la) (db:Lims lb) (h1:la.length≤1073741824) (h2:lb.length≤1073741824) (h3:la.length≤ca) (h4:lb.length≤cb) :
 Does Tryz.prog 98 [.slice a la.length ca,.slice b lb.length cb] G [] (fun v G' Ho=>v=.int .i64 (sG (qZ la) (qZ lb))∧G'=G∧Ho=[]):=by
 refine D0 Tryz.func98 Tryz.ntmps98 fun w=>?_
 refine aM 8 [] ?_
 refine cX 0 rfl (Dm _ _ _ _ qY qX sW) fun v1 G1 Ho1 hle1 hp=>?_
 obtain ⟨ta1,tm1,rfl,hta1,hte1,htr1,htl1,rfl,rfl⟩:=hp
 refine aC 1 [] ?_
 refine cX 0 rfl (Dm _ _ _ _ qY qX sW) fun v2 G2 Ho2 hle2 hp=>?_
 obtain ⟨ta2,tm2,rfl,hta2,hte2,htr2,htl2,rfl,rfl⟩:=hp
 refine bP 16 [] ?_
 refine eX (fun hc1=>?_) fun hc1=>?_
 refine bQ 8 [] ?_
 refine cI ?_
 rotate_left
 refine cZ 10 [] ?_
 refine eX (fun hc2=>?_) fun hc2=>?_
 refine bQ 8 [] ?_
 refine cI ?_
 rotate_left
 refine cZ 13 [] ?_
 rotate_left
 · rw [←tO hte1 htr1,←tO hte2 htr2]
   exact ⟨by rw [Aj (vH (tH hte1 da) (tH hte2 db) (yD hte2 htr2) qX)],rfl,rfl⟩
 · rw [←tO hte1 htr1,←tO hte2 htr2]
   exact ⟨by rw [Dv (vH (tH hte2 db) (tH hte1 da) (yD hte1 htr1) qX)],rfl,rfl⟩
 rw [←tO hte1 htr1,←tO hte2 htr2]
 have dma:=tH hte1 da
 have dmb:=tH hte2 db
 have l1:=htr1.1
 have l2:=htr2.1
 have hn:tm1.length=tm2.length:=qX
 refine iE (ι:=Nat) (fun k=>([(5,.int .i64 ((k:Int) - 1)),(1,.slice ta2 (List.length tm2) (List.length tm2)),(0,.slice ta1 (List.length tm1) (List.length tm1))],[])) (fun k=>k≤tm1.length∧∀ j,k≤j→j<tm1.length→lg tm1 j=lg tm2 j) (fun k=>k) (tm1.length) (⟨aE _,fun j h1 h2=>absurd h2 qX⟩) fun k=>fun hk=>?_
 obtain ⟨hk1,hz⟩:=hk
 rcases iO k with rfl | hpos
 · refine bQ 19 [0] ?_
   refine cI ?_
   have e:tm1=tm2:=by
    have:=Fk (k:=0) hn hz
    simpa using this
   exact ⟨by rw [e,Lp rfl],rfl,rfl⟩
 have e1:(tm1[((k:Int) - 1).toNat]?.getD default).v=lg tm1 (k - 1):=by
  unfold lg;rw [show (((k:Nat):Int) - 1).toNat=((k - 1:Nat):Int).toNat by omega]
 have e2:(tm2[((k:Int) - 1).toNat]?.getD default).v=lg tm2 (k - 1):=by
  unfold lg;rw [show (((k:Nat):Int) - 1).toNat=((k - 1:Nat):Int).toNat by omega]
 have hz':∀ j,(k - 1)+1≤j→j<tm1.length→lg tm1 j=lg tm2 j:=fun j h1 h2=>hz j qX h2
 refine cZ 14 [1] ?_
 refine eZ [] [] T.mixed [[0],[1]] ?_
 refine qL (α:=U32) 2 T.sl87 ?_
 refine Ff 3 [] 0 T.one166 ?_
 refine fE [[4],[5]] ?_
 refine qL (α:=U32) 6 T.sl87 ?_
 refine Ff 7 [] 0 T.one166 ?_
 refine fE [[8],[9]] ?_
 refine eI ?_
 refine bW ?_
 refine eX (fun hc3=>?_) fun hc3=>?_
 refine bQ 12 [] ?_
 refine cI ?_
 rotate_left
 refine cO ?_
 refine eZ [] [] T.mixed [[0],[1]] ?_
 refine qL (α:=U32) 2 T.sl87 ?_
 refine Ff 3 [] 0 T.one166 ?_
 refine fE [[4],[5]] ?_
 refine qL (α:=U32) 6 T.sl87 ?_
 refine Ff 7 [] 0 T.one166 ?_
 refine fE [[8],[9]] ?_
 refine eI ?_
 refine bW ?_
 refine eX (fun hc4=>?_) fun hc4=>?_
 refine bQ 12 [] ?_
 refine cI ?_
 rotate_left
 refine bQ 9 [] ?_
 rotate_left
 · exact ⟨by rw [Aj (Ns hn qX dma dmb hz' qX)],rfl,rfl⟩
 · exact ⟨by rw [Dv (Ns hn.symm qX dmb dma (fun j h1 h2=>(hz' j h1 qX).symm) qX)],rfl,rfl⟩
 refine cS 5 rfl (show _=Value.int .i64 (((k - 1:Nat):Int) - 1) by congr 1;omega) ?_
 refine dX (k - 1) ?_ ?_
 · refine ⟨by omega,fun j h1 h2=>?_⟩
   rcases aR j k with h3 | h3
   · have e:j=k - 1:=qX
     rw [e];omega
   exact hz j h3 h2
 omega
theorem HJ (G:Imm) (a:Option Addr) (c:Nat) (l:List U32) (hl:Arr G a l) (hb:l.length≤1073741824) (hc:l.length≤c) :
 Does Tryz.prog 151 [.slice a l.length c] G [] (fun v G' Ho=>∃ (b:Option Addr) (m:List U32),v=.slice b m.length m.length∧Arr G' b m∧m=l.take m.length∧Trim l m.length∧m.length≤l.length∧Ho=[]):=by
 refine D0 Tryz.func151 Tryz.ntmps151 fun w=>?_
 refine aM 8 [] ?_
 refine cX 0 rfl (Dm _ _ _ _ qY qX sW) fun v1 G1 Ho1 hle1 hp=>?_
 obtain ⟨ta1,tm1,rfl,hta1,hte1,htr1,htl1,rfl,rfl⟩:=hp
 refine aL 7 [] ?_
 refine jT (α:=U32) 0 rfl T.sl87 T.el166 rfl rfl qX qX fun b1=>?_
 refine aL 7 [] ?_
 refine Fl (α:=U32) 0 rfl T.sl87 rfl rfl rfl (oG qY) (by first | omega | (simp only [aQ,bH,cE,aH];omega)) ?_
 refine bA 9 [] ?_
 have e1:(List.replicate ((tm1.length:Nat):Int).toNat (default:U32)).length=tm1.length:=by rw [aH,aN]
 refine gT 0 (rP 166 tm1 []) rfl (by rw [eC (by rw [e1];exact aE _),eN]) ?_
 refine cS 2 rfl (show _=Value.slice (some ⟨b1,0,none⟩) tm1.length tm1.length by rw [e1]) ?_
 refine eT 0 rfl (iG (xs:=tm1) (by simp only [maxLen];omega)) fun G9 hle9 hA=>?_
 refine cI ?_
 exact ⟨_,tm1,rfl,hA,hte1,htr1,htl1,rfl⟩
end
def Nat32 (G:Imm) (v:Value) (z:Int) (n:Nat):Prop:=∃ (b:Option Addr) (m:List U32),v=.slice b m.length m.length∧Arr G b m∧Lims m∧Top m∧qZ m=z∧m.length≤n
theorem Nat32.of {G:Imm} {b:Option Addr} {l m:List U32} {z:Int} {n:Nat} (h:Arr G b m) (he:m=l.take m.length) (ht:Trim l m.length) (hd:Lims l) (hz:qZ l=z) (hn:m.length≤n):Nat32 G (.slice b m.length m.length) z n:=
 ⟨b,m,rfl,h,tH he hd,yD he ht,(tO he ht).trans hz,hn⟩
abbrev mE:=@Nat32.of
section
attribute [local irreducible] qZ pb sG
theorem c97 (G:Imm) (a b:Option Addr) (ca cb:Nat) (la lb:List U32) (ha:Arr G a la) (hb:Arr G b lb) (da:Lims la) (db:Lims lb) (h1:la.length≤1073741824) (h2:lb.length≤1073741824) :
 Does Tryz.prog 97 [.slice a la.length ca,.slice b lb.length cb] G [] (fun v G' Ho=>Nat32 G' v (qZ la+qZ lb) (max la.length lb.length+1)∧Ho=[]):=by
 refine D0 Tryz.func97 Tryz.ntmps97 fun w=>?_
 refine cZ 5 [] ?_
 refine Aa (ι:=Option Addr×Nat×List U32×(Option Addr×Nat×List U32)) (fun (xa,ka,l1,(xb,kb,l2))=>([(0,.slice xa l1.length ka),(1,.slice xb l2.length kb),(4,.slice none 0 0)],[])) (fun (xa,ka,l1,(xb,kb,l2))=>Arr G xa l1∧Arr G xb l2∧Lims l1∧Lims l2∧l2.length≤l1.length∧l1.length≤max la.length lb.length∧qZ l1+qZ l2=qZ la+qZ lb) ?_ fun ⟨xa,ka,l1,(xb,kb,l2)⟩=>fun (hk:Arr G xa l1∧Arr G xb l2∧Lims l1∧Lims l2∧l2.length≤l1.length∧l1.length≤max la.length lb.length∧qZ l1+qZ l2=qZ la+qZ lb)=>?_
 · by_cases hlt:la.length<lb.length
   · refine bQ 16 [1] ?_
     refine Ar.mt ((b,cb,lb,(a,ca,la))) ?_
     exact ⟨hb,ha,db,da,by omega,by omega,Int.add_comm _ _⟩
   refine bQ 11 [0] ?_
   refine Ar.mt ((a,ca,la,(b,cb,lb))) ?_
   exact ⟨ha,hb,da,db,by omega,by omega,rfl⟩
 obtain ⟨ha1,hb1,d1,d2,hl21,hl1,hsum⟩:=hk
 clear ha hb
 refine aM 5 [] ?_
 refine jT (α:=U32) 0 rfl T.sl87 T.el166 rfl rfl qX qX fun b1=>?_
 refine bP 17 [] ?_
 obtain ⟨N,hN⟩:∃ N,N=l1.length+1:=⟨_,rfl⟩
 have hM:((l1.length:Int)+1).toNat=N:=qX
 rw [hM]
 have hown:∀ r:List U32,r.length=N→OwnA (some ⟨b1,0,none⟩) N r []:=fun r hr=>.inr ⟨b1,rfl,by rw [hr];rfl,by omega,by simp only [maxLen];omega⟩
 refine kR 5 rfl (show _=Value.slice (some ⟨b1,0,none⟩) (List.replicate N (default:U32)).length N by rw [aH]) ?_
 refine iE (ι:=Nat×Int×List U32) (fun (i,cy,r)=>([(22,.int .i64 (i:Int)),(6,.int .u64 cy),(5,.slice (some ⟨b1,0,none⟩) r.length N),(21,.int .i64 (l1.length:Int)),(20,.slice xa (List.length l1) ka),(0,.slice xa (List.length l1) ka),(1,.slice xb (List.length l2) kb),(4,.slice none 0 0)],[(0,some b1,rP 166 r [])])) (fun (i,cy,r)=>i≤l1.length∧r.length=N∧Lims r∧0≤cy∧cy≤1∧qZ (l1.take i)+qZ (l2.take i)=qZ (r.take i)+pb i*cy) (fun (i,cy,r)=>l1.length - i) ((0,0,List.replicate N (default:U32))) (⟨aZ _,aH,lS N,by decide,by decide,by rw [bY,bY,bY,dJ,gL,rW];rfl⟩) fun ⟨i,cy,r⟩=>fun hk=>?_
 obtain ⟨hi,hrN,hdr,hc0,hc1,hv⟩:=hk
 have hor:=hown r hrN
 rcases aR i l1.length with hia | hia
 · have r1:0≤(l1[(i:Int).toNat]?.getD default).v∧(l1[(i:Int).toNat]?.getD default).v<4294967296:=wN d1 hia
   rcases aR i l2.length with hib | hib
   · have r2:0≤(l2[(i:Int).toNat]?.getD default).v∧(l2[(i:Int).toNat]?.getD default).v<4294967296:=wN d2 hib
     refine aM 14 [1] ?_
     refine eO (α:=U32) T.sl87 ?_
     refine iD 0 T.one166 ?_
     refine aL 8 [] ?_
     refine aP (bV rfl T.u165 rfl qX) ?_
     refine aP (gA rfl rfl qX) ?_
     refine aL 17 [1] ?_
     refine eO (α:=U32) T.sl87 ?_
     refine iD 0 T.one166 ?_
     refine aP (bV rfl T.u165 rfl qX) ?_
     refine aP (gA rfl rfl qX) ?_
     refine aL 8 [] ?_
     refine aP (fL rfl T.u166 rfl) ?_
     refine jE (α:=U32) T.sl87 ?_
     refine fS (z:=_) 0 T.size166 rfl rfl rfl qY qX rfl fun ho1=>?_
     refine aL 4 [] ?_
     refine aP (dV rfl rfl qX) ?_
     refine bA 8 [] ?_
     refine gT 0 (rP 166 (r.set i (⟨(cy+(l1[(i:Int).toNat]?.getD default).v+(l2[(i:Int).toNat]?.getD default).v) % 4294967296⟩:U32)) []) rfl Mu ?_
     refine cS 5 rfl (show _=Value.slice (some ⟨b1,0,none⟩) (r.set i (⟨(cy+(l1[(i:Int).toNat]?.getD default).v+(l2[(i:Int).toNat]?.getD default).v) % 4294967296⟩:U32)).length N by rw [aI]) ?_
     refine dX ((i+1,(cy+(l1[(i:Int).toNat]?.getD default).v+(l2[(i:Int).toNat]?.getD default).v) / 4294967296,r.set i (⟨(cy+(l1[(i:Int).toNat]?.getD default).v+(l2[(i:Int).toNat]?.getD default).v) % 4294967296⟩:U32))) ?_ ?_
     · exact ⟨by omega,by rw [aI];exact hrN,rS hdr _ (yZ _),by omega,by omega,Ah qX hv rfl⟩
     show l1.length - (i+1)<l1.length - i
     omega
   have z:=yC hib
   refine aM 14 [1] ?_
   refine eO (α:=U32) T.sl87 ?_
   refine iD 0 T.one166 ?_
   refine aL 8 [] ?_
   refine aP (bV rfl T.u165 rfl qX) ?_
   refine aP (gA rfl rfl qX) ?_
   refine aL 20 [0] ?_
   refine aP (fL rfl T.u166 rfl) ?_
   refine jE (α:=U32) T.sl87 ?_
   refine fS (z:=_) 0 T.size166 rfl rfl rfl qY qX rfl fun ho1=>?_
   refine aL 4 [] ?_
   refine aP (dV rfl rfl qX) ?_
   refine bA 8 [] ?_
   refine gT 0 (rP 166 (r.set i (⟨(cy+(l1[(i:Int).toNat]?.getD default).v) % 4294967296⟩:U32)) []) rfl Mu ?_
   refine cS 5 rfl (show _=Value.slice (some ⟨b1,0,none⟩) (r.set i (⟨(cy+(l1[(i:Int).toNat]?.getD default).v) % 4294967296⟩:U32)).length N by rw [aI]) ?_
   refine dX ((i+1,(cy+(l1[(i:Int).toNat]?.getD default).v) / 4294967296,r.set i (⟨(cy+(l1[(i:Int).toNat]?.getD default).v) % 4294967296⟩:U32))) ?_ ?_
   · exact ⟨by omega,by rw [aI];exact hrN,rS hdr _ (yZ _),by omega,by omega,Ah qX hv (by rw [z,gL];rfl)⟩
   show l1.length - (i+1)<l1.length - i
   omega
 have hii:i=l1.length:=qX
 subst hii
 refine aM 18 [0] ?_
 refine aP (iF rfl T.u166 rfl qX) ?_
 refine jE (α:=U32) T.sl87 ?_
 refine fS (z:=_) 0 T.size166 rfl rfl rfl qY qX rfl fun ho1=>?_
 refine aL 5 [] ?_
 have hd2:=rS hdr l1.length (s:=cy) qX
 have hlen:(r.set l1.length (⟨cy⟩:U32)).length=N:=by rw [aI];exact hrN
 have hval:qZ (r.set l1.length (⟨cy⟩:U32))=qZ la+qZ lb:=by
  rw [rQ (aE _),rQ hl21] at hv
  rw [←hsum,hv]
  have h3:=rZ (r.set l1.length (⟨cy⟩:U32)) l1.length
  rw [rQ qX,kD (aE _),zG qX] at h3
  exact h3
 refine mZ 0 (rP 166 (r.set l1.length (⟨cy⟩:U32)) []) rfl Mu ?_
 refine kA 56 rfl (show _=Value.slice (some ⟨b1,0,none⟩) (r.set l1.length (⟨cy⟩:U32)).length N by rw [aI]) ?_
 refine fT 0 rfl (hown _ hlen) fun G9 hle9 hA=>?_
 refine cX 1 rfl (Dm _ _ _ _ qY qX sW) fun v1 G1 Ho1 hle1 hp=>?_
 obtain ⟨ta1,tm1,rfl,hta1,hte1,htr1,htl1,rfl,rfl⟩:=hp
 refine bA 4 [] ?_
 refine cI ?_
 exact ⟨mE hta1 hte1 htr1 hd2 hval qX,rfl⟩
end
section
attribute [local irreducible] qZ pb sG
theorem c99 (G:Imm) (a b:Option Addr) (ca cb:Nat) (la lb:List U32) (ha:Arr G a la) (hb:Arr G b lb) (da:Lims la) (db:Lims lb) (h1:la.length≤1073741824) (h2:lb.length≤la.length) (h3:la.length≤ca) (h4:lb.length≤cb) (hle:qZ lb≤qZ la) :
 Does Tryz.prog 99 [.slice a la.length ca,.slice b lb.length cb] G [] (fun v G' Ho=>∃ r,v=.tuple #[r,.int .i64 0]∧Nat32 G' r (qZ la - qZ lb) la.length∧Ho=[]):=by
 have hcmp:0≤sG (qZ la) (qZ lb):=by
  rcases Int.lt_or_eq_of_le hle with h | h
  · rw [Dv h];decide
  rw [Lp h.symm];decide
 refine D0 Tryz.func99 Tryz.ntmps99 fun w=>?_
 refine aM 11 [] ?_
 refine bS rfl (GH _ _ _ _ _ _ _ qY qY qY qY qX qX qX qX) ?_
 refine aL 10 [0] ?_
 refine jT (α:=U32) 0 rfl T.sl87 T.el166 rfl rfl qX qX fun b1=>?_
 refine bP 17 [] ?_
 obtain ⟨N,hN⟩:∃ N,N=la.length:=⟨_,rfl⟩
 have hM:(la.length:Int).toNat=N:=qX
 rw [hM]
 have hown:∀ r:List U32,r.length=N→OwnA (some ⟨b1,0,none⟩) N r []:=fun r hr=>.inr ⟨b1,rfl,by rw [hr];rfl,by omega,by simp only [maxLen];omega⟩
 refine kR 6 rfl (show _=Value.slice (some ⟨b1,0,none⟩) (List.replicate N (default:U32)).length N by rw [aH]) ?_
 refine iE (ι:=Nat×Int×List U32) (fun (i,cy,r)=>([(21,.int .i64 (i:Int)),(7,.int .u64 cy),(6,.slice (some ⟨b1,0,none⟩) r.length N),(20,.int .i64 (la.length:Int)),(19,.slice a (List.length la) ca),(5,.int .i64 0),(4,.slice none 0 0),(1,.slice b (List.length lb) cb)],[(0,some b1,rP 166 r [])])) (fun (i,cy,r)=>i≤la.length∧r.length=N∧Lims r∧0≤cy∧cy≤1∧qZ (la.take i) - qZ (lb.take i)=qZ (r.take i) - pb i*cy) (fun (i,cy,r)=>la.length - i) ((0,0,List.replicate N (default:U32))) (⟨aZ _,aH,lS N,by decide,by decide,by rw [bY,bY,bY,dJ,oJ,rW];rfl⟩) fun ⟨i,cy,r⟩=>fun hk=>?_
 obtain ⟨hi,hrN,hdr,hc0,hc1,hv⟩:=hk
 have hor:=hown r hrN
 rcases aR i la.length with hia | hia
 · have r1:0≤(la[(i:Int).toNat]?.getD default).v∧(la[(i:Int).toNat]?.getD default).v<4294967296:=wN da hia
   have e1:(la[(i:Int).toNat]?.getD default).v=lg la i:=rfl
   rcases aR i lb.length with hib | hib
   · have r2:0≤(lb[(i:Int).toNat]?.getD default).v∧(lb[(i:Int).toNat]?.getD default).v<4294967296:=wN db hib
     have e2:(lb[(i:Int).toNat]?.getD default).v=lg lb i:=rfl
     by_cases hlt:(la[((i:Nat):Int).toNat]?.getD default).v<cy+(lb[((i:Nat):Int).toNat]?.getD default).v
     · refine aM 14 [1] ?_
       refine eO (α:=U32) T.sl87 ?_
       refine iD 0 T.one166 ?_
       refine aL 24 [1] ?_
       refine eO (α:=U32) T.sl87 ?_
       refine iD 0 T.one166 ?_
       refine aP (bV rfl T.u165 rfl qX) ?_
       refine aP (gA rfl rfl qX) ?_
       refine aL 6 [] ?_
       refine aP (bV rfl T.u165 rfl qX) ?_
       refine aC 1 [] ?_
       refine aP (oV rfl rfl qX) ?_
       refine aL 8 [] ?_
       refine aP (fL rfl T.u166 rfl) ?_
       refine jE (α:=U32) T.sl87 ?_
       refine fS (z:=_) 0 T.size166 rfl rfl rfl qY qX rfl fun ho1=>?_
       refine aL 4 [] ?_
       refine aP (dV rfl rfl qX) ?_
       refine aP (mP rfl rfl qX) ?_
       refine bA 8 [] ?_
       have es:((la[(i:Int).toNat]?.getD default).v - (cy+(lb[(i:Int).toNat]?.getD default).v)+18446744073709551616) % 4294967296=((la[(i:Int).toNat]?.getD default).v - (cy+(lb[(i:Int).toNat]?.getD default).v)+4294967296):=qX
       have ec:((la[(i:Int).toNat]?.getD default).v - (cy+(lb[(i:Int).toNat]?.getD default).v)+18446744073709551616) / 4294967296 % 2=1:=qX
       refine cS 7 rfl (show _=Value.int .u64 1 by rw [ec]) ?_
       refine gT 0 (rP 166 (r.set i (⟨((la[(i:Int).toNat]?.getD default).v - (cy+(lb[(i:Int).toNat]?.getD default).v)+4294967296)⟩:U32)) []) rfl Sb ?_
       refine cS 6 rfl (show _=Value.slice (some ⟨b1,0,none⟩) (r.set i (⟨((la[(i:Int).toNat]?.getD default).v - (cy+(lb[(i:Int).toNat]?.getD default).v)+4294967296)⟩:U32)).length N by rw [aI]) ?_
       refine dX ((i+1,1,r.set i (⟨((la[(i:Int).toNat]?.getD default).v - (cy+(lb[(i:Int).toNat]?.getD default).v)+4294967296)⟩:U32))) ?_ ?_
       · exact ⟨by omega,by rw [aI];exact hrN,rS hdr _ qX,by decide,by decide,Ai (cy':=1) qX hv (by rw [←e1,←e2];omega)⟩
       show la.length - (i+1)<la.length - i
       omega
     refine aM 14 [1] ?_
     refine eO (α:=U32) T.sl87 ?_
     refine iD 0 T.one166 ?_
     refine aL 24 [1] ?_
     refine eO (α:=U32) T.sl87 ?_
     refine iD 0 T.one166 ?_
     refine aP (bV rfl T.u165 rfl qX) ?_
     refine aP (gA rfl rfl qX) ?_
     refine aL 6 [] ?_
     refine aP (bV rfl T.u165 rfl qX) ?_
     refine aC 1 [] ?_
     refine aP (gY rfl rfl qX) ?_
     refine aL 8 [] ?_
     refine aP (iF rfl T.u166 rfl qX) ?_
     refine jE (α:=U32) T.sl87 ?_
     refine fS (z:=_) 0 T.size166 rfl rfl rfl qY qX rfl fun ho1=>?_
     refine aL 4 [] ?_
     refine aP (dV rfl rfl qX) ?_
     refine aP (mP rfl rfl qX) ?_
     refine bA 8 [] ?_
     have es:((la[(i:Int).toNat]?.getD default).v - (cy+(lb[(i:Int).toNat]?.getD default).v))=((la[(i:Int).toNat]?.getD default).v - (cy+(lb[(i:Int).toNat]?.getD default).v)):=qX
     have ec:((la[(i:Int).toNat]?.getD default).v - (cy+(lb[(i:Int).toNat]?.getD default).v)) / 4294967296 % 2=0:=qX
     refine cS 7 rfl (show _=Value.int .u64 0 by rw [ec]) ?_
     refine gT 0 (rP 166 (r.set i (⟨((la[(i:Int).toNat]?.getD default).v - (cy+(lb[(i:Int).toNat]?.getD default).v))⟩:U32)) []) rfl Sb ?_
     refine cS 6 rfl (show _=Value.slice (some ⟨b1,0,none⟩) (r.set i (⟨((la[(i:Int).toNat]?.getD default).v - (cy+(lb[(i:Int).toNat]?.getD default).v))⟩:U32)).length N by rw [aI]) ?_
     refine dX ((i+1,0,r.set i (⟨((la[(i:Int).toNat]?.getD default).v - (cy+(lb[(i:Int).toNat]?.getD default).v))⟩:U32))) ?_ ?_
     · exact ⟨by omega,by rw [aI];exact hrN,rS hdr _ qX,by decide,by decide,Ai (cy':=0) qX hv (by rw [←e1,←e2];omega)⟩
     show la.length - (i+1)<la.length - i
     omega
   have z:=yC hib
   by_cases hlt:(la[((i:Nat):Int).toNat]?.getD default).v<cy
   · refine aM 14 [1] ?_
     refine eO (α:=U32) T.sl87 ?_
     refine iD 0 T.one166 ?_
     refine aL 25 [0] ?_
     refine aP (bV rfl T.u165 rfl qX) ?_
     refine aC 1 [] ?_
     refine aP (oV rfl rfl qX) ?_
     refine aL 8 [] ?_
     refine aP (fL rfl T.u166 rfl) ?_
     refine jE (α:=U32) T.sl87 ?_
     refine fS (z:=_) 0 T.size166 rfl rfl rfl qY qX rfl fun ho1=>?_
     refine aL 4 [] ?_
     refine aP (dV rfl rfl qX) ?_
     refine aP (mP rfl rfl qX) ?_
     refine bA 8 [] ?_
     have es:((la[(i:Int).toNat]?.getD default).v - (cy)+18446744073709551616) % 4294967296=((la[(i:Int).toNat]?.getD default).v - (cy)+4294967296):=qX
     have ec:((la[(i:Int).toNat]?.getD default).v - (cy)+18446744073709551616) / 4294967296 % 2=1:=qX
     refine cS 7 rfl (show _=Value.int .u64 1 by rw [ec]) ?_
     refine gT 0 (rP 166 (r.set i (⟨((la[(i:Int).toNat]?.getD default).v - (cy)+4294967296)⟩:U32)) []) rfl Sb ?_
     refine cS 6 rfl (show _=Value.slice (some ⟨b1,0,none⟩) (r.set i (⟨((la[(i:Int).toNat]?.getD default).v - (cy)+4294967296)⟩:U32)).length N by rw [aI]) ?_
     refine dX ((i+1,1,r.set i (⟨((la[(i:Int).toNat]?.getD default).v - (cy)+4294967296)⟩:U32))) ?_ ?_
     · exact ⟨by omega,by rw [aI];exact hrN,rS hdr _ qX,by decide,by decide,Ai (cy':=1) qX hv (by rw [←e1,z];omega)⟩
     show la.length - (i+1)<la.length - i
     omega
   refine aM 14 [1] ?_
   refine eO (α:=U32) T.sl87 ?_
   refine iD 0 T.one166 ?_
   refine aL 25 [0] ?_
   refine aP (bV rfl T.u165 rfl qX) ?_
   refine aC 1 [] ?_
   refine aP (gY rfl rfl qX) ?_
   refine aL 8 [] ?_
   refine aP (iF rfl T.u166 rfl qX) ?_
   refine jE (α:=U32) T.sl87 ?_
   refine fS (z:=_) 0 T.size166 rfl rfl rfl qY qX rfl fun ho1=>?_
   refine aL 4 [] ?_
   refine aP (dV rfl rfl qX) ?_
   refine aP (mP rfl rfl qX) ?_
   refine bA 8 [] ?_
   have es:((la[(i:Int).toNat]?.getD default).v - (cy))=((la[(i:Int).toNat]?.getD default).v - (cy)):=qX
   have ec:((la[(i:Int).toNat]?.getD default).v - (cy)) / 4294967296 % 2=0:=qX
   refine cS 7 rfl (show _=Value.int .u64 0 by rw [ec]) ?_
   refine gT 0 (rP 166 (r.set i (⟨((la[(i:Int).toNat]?.getD default).v - (cy))⟩:U32)) []) rfl Sb ?_
   refine cS 6 rfl (show _=Value.slice (some ⟨b1,0,none⟩) (r.set i (⟨((la[(i:Int).toNat]?.getD default).v - (cy))⟩:U32)).length N by rw [aI]) ?_
   refine dX ((i+1,0,r.set i (⟨((la[(i:Int).toNat]?.getD default).v - (cy))⟩:U32))) ?_ ?_
   · exact ⟨by omega,by rw [aI];exact hrN,rS hdr _ qX,by decide,by decide,Ai (cy':=0) qX hv (by rw [←e1,z];omega)⟩
   show la.length - (i+1)<la.length - i
   omega
 have hii:i=la.length:=qX
 subst hii
 refine aM 15 [0] ?_
 refine fT 0 rfl hor fun G9 hle9 hA=>?_
 refine cX 1 rfl (Dm _ _ _ _ qY qX sW) fun v1 G1 Ho1 hle1 hp=>?_
 obtain ⟨ta1,tm1,rfl,hta1,hte1,htr1,htl1,rfl,rfl⟩:=hp
 refine bA 5 [] ?_
 refine eJ ?_
 exact ⟨_,rfl,mE hta1 hte1 htr1 hdr (DW rfl h2 hle qX hdr ⟨hc0,hc1⟩ hv) qX,rfl⟩
end
theorem Ak (n k:Nat):lg (List.replicate n (default:U32)) k=0:=by
 unfold lg
 rw [aN,oC]
 split <;> rfl
section
attribute [local irreducible] qZ pb sG
theorem OK (G:Imm) (a b:Option Addr) (ca cb:Nat) (la lb:List U32) (ha:Arr G a la) (hb:Arr G b lb) (da:Lims la) (db:Lims lb) (h1:la.length≤536870912) (h2:lb.length≤536870912) :
 Does Tryz.prog 120 [.slice a la.length ca,.slice b lb.length cb] G [] (fun v G' Ho=>Nat32 G' v (qZ la*qZ lb) (la.length+lb.length)∧Ho=[]):=by
 refine D0 Tryz.func120 Tryz.ntmps120 fun w=>?_
 refine aM 12 [] ?_
 refine jT (α:=U32) 0 rfl T.sl87 T.el166 rfl rfl qX qX fun b1=>?_
 refine bP 12 [] ?_
 obtain ⟨N,hN⟩:∃ N,N=la.length+lb.length:=⟨_,rfl⟩
 have hM:((la.length:Int)+(lb.length:Int)).toNat=N:=qX
 rw [hM]
 have hown:∀ r:List U32,r.length=N→OwnA (some ⟨b1,0,none⟩) N r []:=fun r hr=>.inr ⟨b1,rfl,by rw [hr];rfl,by omega,by simp only [maxLen];omega⟩
 refine kR 5 rfl (show _=Value.slice (some ⟨b1,0,none⟩) (List.replicate N (default:U32)).length N by rw [aH]) ?_
 refine iE (ι:=Nat×List U32) (fun (i,r)=>([(19,.int .i64 (i:Int)),(5,.slice (some ⟨b1,0,none⟩) r.length N),(18,.int .i64 (la.length:Int)),(17,.slice a (List.length la) ca),(4,.slice none 0 0),(1,.slice b (List.length lb) cb)],[(0,some b1,rP 166 r [])])) (fun (i,r)=>i≤la.length∧r.length=N∧Lims r∧qZ r=qZ (la.take i)*qZ lb∧∀ k,i+lb.length≤k→lg r k=0) (fun (i,r)=>la.length - i) ((0,List.replicate N (default:U32))) (⟨aZ _,aH,lS N,by rw [bY,rW,lB];exact vY N,fun k _=>Ak N k⟩) fun ⟨i,r⟩=>fun hk=>?_
 obtain ⟨hi,hrN,hdr,hv,hz⟩:=hk
 rcases aR i la.length with hia | hia
 · have hxi:0≤(la[(i:Int).toNat]?.getD default).v∧(la[(i:Int).toNat]?.getD default).v<4294967296:=wN da hia
   refine aM 14 [1] ?_
   refine eO (α:=U32) T.sl87 ?_
   refine iD 0 T.one166 ?_
   refine bP 18 [] ?_
   refine iE (ι:=Nat×Int×List U32) (fun (j,c,s)=>([(26,.int .i64 (j:Int)),(8,.int .u64 c),(5,.slice (some ⟨b1,0,none⟩) s.length N),(17,.slice a la.length ca),(18,.int .i64 (la.length:Int)),(25,.int .i64 (lb.length:Int)),(24,.slice b (List.length lb) cb),(7,.int .u32 (Go.Sl.U32.v (Option.getD la[Int.toNat (↑i:Int)]? default))),(6,.int .i64 (↑i:Int)),(19,.int .i64 (↑i:Int)),(4,.slice none 0 0),(1,.slice b (List.length lb) cb)],[(0,some b1,rP 166 s [])])) (fun (j,c,s)=>0≤c∧c≤4294967295∧s.length=N∧Lims s∧qZ s+pb (i+j)*c=qZ (la.take i)*qZ lb+pb i*(lg la i*qZ (lb.take j))∧j≤lb.length∧∀ k,i+lb.length≤k→lg s k=0) (fun (j,c,s)=>lb.length - j) ((0,0,r)) (⟨by decide,by decide,hrN,hdr,by rw [dJ,bY,rW,dJ,dJ,gL,gL];exact hv,aZ _,hz⟩) fun ⟨j,c,s⟩=>fun hk=>?_
   obtain ⟨hc0,hc1,hsN,hds,hvs,hjl,hzs⟩:=hk
   have hos:=hown s hsN
   have ekk:((i:Int)+(j:Int)).toNat=i+j:=qX
   rcases aR j lb.length with hjb | hjb
   · have hyj:0≤(lb[(j:Int).toNat]?.getD default).v∧(lb[(j:Int).toNat]?.getD default).v<4294967296:=wN db hjb
     have hxy:=xK hxi hyj
     have hxy2:0≤(la[(i:Int).toNat]?.getD default).v*(lb[(j:Int).toNat]?.getD default).v∧(la[(i:Int).toNat]?.getD default).v*(lb[(j:Int).toNat]?.getD default).v≤18446744073709551615:=qX
     have hsk:0≤(s[((i:Int)+(j:Int)).toNat]?.getD default).v∧(s[((i:Int)+(j:Int)).toNat]?.getD default).v<4294967296:=hds.at qX
     refine aM 14 [1] ?_
     refine eO (α:=U32) T.sl87 ?_
     refine iD 0 T.one166 ?_
     refine aL 8 [] ?_
     refine aP (bV rfl T.u165 rfl qX) ?_
     refine aC 1 [] ?_
     refine aP (bV rfl T.u165 rfl qX) ?_
     refine aP (nZ rfl rfl sW) ?_
     refine aC 4 [] ?_
     refine jE (α:=U32) T.sl87 ?_
     refine Wl.lo 0 0 T.one166 ?_
     refine aP (bV rfl T.u165 rfl qX) ?_
     refine aP (gA rfl rfl qX) ?_
     refine aP (gA rfl rfl qX) ?_
     refine aL 10 [] ?_
     refine aP (fL rfl T.u166 rfl) ?_
     refine jE (α:=U32) T.sl87 ?_
     refine fS (z:=_) 0 T.size166 rfl rfl rfl qY qX rfl fun ho1=>?_
     refine aL 4 [] ?_
     refine aP (dV rfl rfl qX) ?_
     refine bA 8 [] ?_
     rw [ekk] at ⊢ hsk
     refine cS 5 rfl (show _=Value.slice (some ⟨b1,0,none⟩) (s.set (i+j) (⟨(c+((la[(i:Int).toNat]?.getD default).v*(lb[(j:Int).toNat]?.getD default).v+(s[i+j]?.getD default).v)) % 4294967296⟩:U32)).length N by rw [aI]) ?_
     refine dX ((j+1,(c+((la[(i:Int).toNat]?.getD default).v*(lb[(j:Int).toNat]?.getD default).v+(s[i+j]?.getD default).v)) / 4294967296,s.set (i+j) (⟨(c+((la[(i:Int).toNat]?.getD default).v*(lb[(j:Int).toNat]?.getD default).v+(s[i+j]?.getD default).v)) % 4294967296⟩:U32))) ?_ ?_
     · exact ⟨by omega,by omega,by rw [aI];exact hsN,rS hds _ (yZ _),Va qX hvs (by simp only [lg,aN]),by omega,fun k hk=>by rw [uU qX];exact hzs k hk⟩
     show lb.length - (j+1)<lb.length - j
     omega
   have hjj:j=lb.length:=qX
   subst hjj
   refine aM 19 [0] ?_
   refine aP (iF rfl T.u166 rfl qX) ?_
   refine jE (α:=U32) T.sl87 ?_
   refine fS (z:=_) 0 T.size166 rfl rfl rfl qY qX rfl fun ho1=>?_
   refine bA 7 [] ?_
   rw [ekk]
   refine cS 5 rfl (show _=Value.slice (some ⟨b1,0,none⟩) (s.set (i+lb.length) (⟨c⟩:U32)).length N by rw [aI]) ?_
   refine dX ((i+1,s.set (i+lb.length) (⟨c⟩:U32))) ?_ ?_
   · exact ⟨by omega,by rw [aI];exact hsN,rS hds _ qX,Yj qX (hzs _ (aE _)) hvs,fun k hk=>by rw [uU qX];exact hzs k qX⟩
   show la.length - (i+1)<la.length - i
   omega
 have hor:=hown r hrN
 rw [rQ hia] at hv
 refine aM 15 [0] ?_
 refine fT 0 rfl hor fun G9 hle9 hA=>?_
 refine cX 1 rfl (Dm _ _ _ _ qY qX sW) fun v1 G1 Ho1 hle1 hp=>?_
 obtain ⟨ta1,tm1,rfl,hta1,hte1,htr1,htl1,rfl,rfl⟩:=hp
 refine bA 4 [] ?_
 refine cI ?_
 exact ⟨mE hta1 hte1 htr1 hdr hv qX,rfl⟩
theorem OL (G:Imm) (a:Option Addr) (ca:Nat) (la:List U32) (B:Int) (ha:Arr G a la) (da:Lims la) (h1:la.length≤1073741824) (hB:0<B) (hB2:B<4294967296) :
 Does Tryz.prog 198 [.slice a la.length ca,.int .u32 B] G [] (fun v G' Ho=>∃ r q m,v=.tuple #[r,.int .u32 m,.int .i64 0]∧Nat32 G' r q la.length∧qZ la=q*B+m∧0≤m∧m<B∧Ho=[]):=by
 refine D0 Tryz.func198 Tryz.ntmps198 fun w=>?_
 refine aM 21 [0] ?_
 refine jT (α:=U32) 0 rfl T.sl87 T.el166 rfl rfl qX qX fun b1=>?_
 refine bP 18 [] ?_
 obtain ⟨N,hN⟩:∃ N,N=la.length:=⟨_,rfl⟩
 have hM:(la.length:Int).toNat=N:=qX
 rw [hM]
 have hown:∀ r:List U32,r.length=N→OwnA (some ⟨b1,0,none⟩) N r []:=fun r hr=>.inr ⟨b1,rfl,by rw [hr];rfl,by omega,by simp only [maxLen];omega⟩
 refine kR 7 rfl (show _=Value.slice (some ⟨b1,0,none⟩) (List.replicate N (default:U32)).length N by rw [aH]) ?_
 refine iE (ι:=Nat×Int×List U32) (fun (k,r,q)=>([(9,.int .i64 ((k:Int) - 1)),(8,.int .u64 r),(7,.slice (some ⟨b1,0,none⟩) q.length N),(6,.int .i64 0),(5,.int .u32 0),(4,.slice none 0 0),(0,.slice a (List.length la) ca),(1,.int .u32 B)],[(0,some b1,rP 166 q [])])) (fun (k,r,q)=>k≤la.length∧q.length=N∧Lims q∧0≤r∧r<B∧qZ (la.drop k)=qZ (q.drop k)*B+r) (fun (k,r,q)=>k) ((la.length,0,List.replicate N (default:U32))) (⟨aE _,aH,lS N,by decide,hB,by rw [eC (aE _),eC Sd,rW,lB];rfl⟩) fun ⟨k,r,q⟩=>fun hk=>?_
 obtain ⟨hk1,hqN,hdq,hr0,hr1,hv⟩:=hk
 have hoq:=hown q hqN
 rcases iO k with rfl | hpos
 · rw [jN,jN] at hv
   refine aM 16 [0] ?_
   refine fT 0 rfl hoq fun G9 hle9 hA=>?_
   refine cX 1 rfl (Dm _ _ _ _ qY qX sW) fun v1 G1 Ho1 hle1 hp=>?_
   obtain ⟨ta1,tm1,rfl,hta1,hte1,htr1,htl1,rfl,rfl⟩:=hp
   refine aC 1 [] ?_
   refine aP (iF rfl T.u166 rfl qX) ?_
   refine bA 6 [] ?_
   refine Ar.e3 ?_
   exact ⟨_,_,_,rfl,mE hta1 hte1 htr1 hdq rfl qX,hv,hr0,hr1,rfl⟩
 obtain ⟨i,rfl⟩:∃ i,k=i+1:=⟨k - 1,by omega⟩
 have hai:=wN da (show i<la.length by omega)
 have ei:(((i+1:Nat):Int) - 1).toNat=i:=qX
 have eA:(la[(((i+1:Nat):Int) - 1).toNat]?.getD default).v=lg la i:=by unfold lg;rw [ei,aN]
 have hsl:=Vb ⟨hr0,hr1⟩ hai
 have hsl':0≤(r*4294967296+(la[(((i+1:Nat):Int) - 1).toNat]?.getD default).v) / B∧(r*4294967296+(la[(((i+1:Nat):Int) - 1).toNat]?.getD default).v) / B≤4294967295:=by
  rw [eA]
  exact ⟨hsl.1,by have:=hsl.2;omega⟩
 have hrm:0≤(r*4294967296+lg la i) % B∧(r*4294967296+lg la i) % B<B:=⟨iY _ qX,dM _ hB⟩
 refine aM 15 [1] ?_
 refine aP (qG rfl rfl qX) ?_
 refine aC 2 [] ?_
 refine eO (α:=U32) T.sl87 ?_
 refine iD 0 T.one166 ?_
 refine aP (bV rfl T.u165 rfl qX) ?_
 refine aP (Ag rfl rfl qX qX) ?_
 refine aL 9 [] ?_
 refine aP (bV rfl T.u165 rfl qX) ?_
 refine aP (Jk rfl rfl qX) ?_
 refine aP (iF rfl T.u166 rfl qX) ?_
 refine jE (α:=U32) T.sl87 ?_
 refine fS (z:=_) 0 T.size166 rfl rfl rfl qY qX rfl fun ho1=>?_
 refine aL 5 [] ?_
 refine aP (bV rfl T.u165 rfl qX) ?_
 refine aP (Ds rfl rfl qX) ?_
 refine bA 9 [] ?_
 rw [eA]
 refine cS 9 rfl (show _=Value.int .i64 ((i:Int) - 1) by congr 1;omega) ?_
 refine gT 0 (rP 166 (q.set i ⟨(r*4294967296+lg la i) / B⟩) []) rfl (by rw [ei]) ?_
 refine cS 7 rfl (show _=Value.slice (some ⟨b1,0,none⟩) (q.set i ⟨(r*4294967296+lg la i) / B⟩).length N by rw [aI]) ?_
 refine dX ((i,(r*4294967296+lg la i) % B,q.set i ⟨(r*4294967296+lg la i) / B⟩)) ?_ ?_
 · exact ⟨by omega,by rw [aI];exact hqN,rS hdq _ hsl,hrm.1,hrm.2,Nr qX qX hv⟩
 show i<i+1
 omega
end
theorem Sp {r s:List U32} {i:Nat} (h:s.drop i=r.drop i):lg s i=lg r i:=by
 have e:s[i]?=r[i]?:=by
  have:=congrArg (·[0]?) h
  simpa [fF] using this
 unfold lg;rw [aN,e]
theorem tP {r s:List U32} {i:Nat} (h:s.drop i=r.drop i) (d:U32):(s.set i d).drop (i+1)=r.drop (i+1):=by
 rw [List.drop_set_of_lt qX,←nF,←nF,h]
section
attribute [local irreducible] qZ pb sG
theorem OM (G:Imm) (b:Nat) (p u q:List U32) (junk:List Value) (cw:Nat) (v:Option Addr) (cv:Nat) (lv:List U32) (t:Int) (hv:Arr G v lv) (du:Lims u) (dv:Lims lv) (h1:u.length≤1073741824) (h2:lv.length<u.length) (ht:0≤t∧t<4294967296) :
 Does Tryz.prog 247 [.slice (some ⟨b,p.length,none⟩) u.length cw,.slice v lv.length cv,.int .u64 t] G [(0,some b,rP 166 (p++(u++q)) junk)] (fun r G' Ho=>∃ (w:List U32) (o:Int),r=.bool (decide (0<o))∧Ho=[(0,some b,rP 166 (p++(w++q)) junk)]∧G'=G∧(o=0∨o=1)∧w.length=u.length∧Lims w∧qZ u - t*qZ lv=qZ w - pb u.length*o):=by
 refine D0 Tryz.func247 Tryz.ntmps247 fun w=>?_
 refine cZ 20 [] ?_
 refine iE (ι:=Nat×Int×Int×List U32) (fun (i,c,o,w)=>([(13,.int .i64 (i:Int)),(7,.int .u64 c),(8,.int .u64 o),(12,.int .i64 (u.length:Int)),(6,.bool Bool.false),(0,.slice (some (Addr.mk b (List.length p) none)) (List.length u) cw),(1,.slice v (List.length lv) cv),(2,.int .u64 t)],[(0,some b,rP 166 (p++(w++q)) junk)])) (fun (i,c,o,w)=>i≤u.length∧w.length=u.length∧Lims w∧0≤c∧c<4294967296∧0≤o∧o≤1∧(lv.length<i→c=0)∧w.drop i=u.drop i∧qZ (u.take i) - t*qZ (lv.take i)=qZ (w.take i) - pb i*(o+c)) (fun (i,c,o,w)=>u.length - i) ((0,0,0,u)) (⟨aZ _,rfl,du,by decide,by decide,by decide,by decide,fun _=>rfl,rfl,by rw [bY,bY,rW,dJ,gL,dJ]⟩) fun ⟨i,c,o,w⟩=>fun hk=>?_
 obtain ⟨hi,hwn,hdw,hc0,hc1,ho0,ho1,hcz,hdrop,hval⟩:=hk
 rcases aR i u.length with hia | hia
 · have hx:0≤(w[(i:Int).toNat]?.getD default).v∧(w[(i:Int).toNat]?.getD default).v<4294967296:=wN hdw qX
   have ex:(w[(i:Int).toNat]?.getD default).v=lg u i:=Sp hdrop
   rcases aR i lv.length with hib | hib
   · have hy:0≤(lv[(i:Int).toNat]?.getD default).v∧(lv[(i:Int).toNat]?.getD default).v<4294967296:=wN dv hib
     have hca:=Qk ⟨hc0,hc1⟩ hy ht
     have hm:0≤(lv[(i:Int).toNat]?.getD default).v*t∧(lv[(i:Int).toNat]?.getD default).v*t≤18446744073709551615:=qX
     by_cases hlt:(w[((i:Nat):Int).toNat]?.getD default).v<(c+(lv[((i:Nat):Int).toNat]?.getD default).v*t) % 4294967296
     · refine aM 31 [1,1] ?_
       refine eO (α:=U32) T.sl87 ?_
       refine iD 0 T.one166 ?_
       refine aP (bV rfl T.u165 rfl qX) ?_
       refine aC 1 [] ?_
       refine aP (nZ rfl rfl sW) ?_
       refine aP (gA rfl rfl qX) ?_
       refine aL 7 [] ?_
       refine aP (cL T.sl87 rfl rfl qX) ?_
       refine aP (jL 0 T.one166 rfl rfl qX) ?_
       refine aP (bV rfl T.u165 rfl qX) ?_
       refine aC 1 [] ?_
       refine aP (oA rfl rfl qX) ?_
       refine aP (oV rfl rfl qX) ?_
       refine aC 1 [] ?_
       refine aP (gY rfl rfl qX) ?_
       refine aL 6 [] ?_
       refine aP (dV rfl rfl qX) ?_
       refine aL 8 [] ?_
       refine aP (fL rfl T.u166 rfl) ?_
       refine aP (cL T.sl87 rfl rfl qX) ?_
       refine oF 0 T.size166 rfl rfl rfl qX ?_
       refine aL 4 [] ?_
       refine aP (dV rfl rfl qX) ?_
       refine aP (mP rfl rfl qX) ?_
       refine bA 8 [] ?_
       have es:((w[(i:Int).toNat]?.getD default).v - (c+(lv[(i:Int).toNat]?.getD default).v*t) % 4294967296+18446744073709551616 - o) % 4294967296=((w[(i:Int).toNat]?.getD default).v - (c+(lv[(i:Int).toNat]?.getD default).v*t) % 4294967296 - o+4294967296*1):=qX
       have ec:((w[(i:Int).toNat]?.getD default).v - (c+(lv[(i:Int).toNat]?.getD default).v*t) % 4294967296+18446744073709551616 - o) / 4294967296 % 2=1:=qX
       refine cS 8 rfl (show _=Value.int .u64 1 by rw [ec]) ?_
       refine gT 0 (rP 166 (p++(w.set i (⟨((w[(i:Int).toNat]?.getD default).v - (c+(lv[(i:Int).toNat]?.getD default).v*t) % 4294967296 - o+4294967296*1)⟩:U32)++q)) junk) rfl Jd ?_
       refine dX ((i+1,(c+(lv[(i:Int).toNat]?.getD default).v*t) / 4294967296,1,w.set i (⟨((w[(i:Int).toNat]?.getD default).v - (c+(lv[(i:Int).toNat]?.getD default).v*t) % 4294967296 - o+4294967296*1)⟩:U32))) ?_ ?_
       · exact ⟨by omega,by rw [aI];exact hwn,rS hdw _ qX,by omega,by omega,by decide,by decide,by omega,tP hdrop _,vR (c':=(c+(lv[(i:Int).toNat]?.getD default).v*t)) (b:=o) (b':=1) qX hval tL (by rw [←ex])⟩
       show u.length - (i+1)<u.length - i
       omega
     by_cases hlt2:(w[((i:Nat):Int).toNat]?.getD default).v - (c+(lv[((i:Nat):Int).toNat]?.getD default).v*t) % 4294967296<o
     · refine aM 31 [1,1] ?_
       refine eO (α:=U32) T.sl87 ?_
       refine iD 0 T.one166 ?_
       refine aP (bV rfl T.u165 rfl qX) ?_
       refine aC 1 [] ?_
       refine aP (nZ rfl rfl sW) ?_
       refine aP (gA rfl rfl qX) ?_
       refine aL 7 [] ?_
       refine aP (cL T.sl87 rfl rfl qX) ?_
       refine aP (jL 0 T.one166 rfl rfl qX) ?_
       refine aP (bV rfl T.u165 rfl qX) ?_
       refine aC 1 [] ?_
       refine aP (oA rfl rfl qX) ?_
       refine aP (gY rfl rfl qX) ?_
       refine aC 1 [] ?_
       refine aP (oV rfl rfl qX) ?_
       refine aL 6 [] ?_
       refine aP (dV rfl rfl qX) ?_
       refine aL 8 [] ?_
       refine aP (fL rfl T.u166 rfl) ?_
       refine aP (cL T.sl87 rfl rfl qX) ?_
       refine oF 0 T.size166 rfl rfl rfl qX ?_
       refine aL 4 [] ?_
       refine aP (dV rfl rfl qX) ?_
       refine aP (mP rfl rfl qX) ?_
       refine bA 8 [] ?_
       have es:((w[(i:Int).toNat]?.getD default).v - (c+(lv[(i:Int).toNat]?.getD default).v*t) % 4294967296 - o+18446744073709551616) % 4294967296=((w[(i:Int).toNat]?.getD default).v - (c+(lv[(i:Int).toNat]?.getD default).v*t) % 4294967296 - o+4294967296*1):=qX
       have ec:((w[(i:Int).toNat]?.getD default).v - (c+(lv[(i:Int).toNat]?.getD default).v*t) % 4294967296 - o+18446744073709551616) / 4294967296 % 2=1:=qX
       refine cS 8 rfl (show _=Value.int .u64 1 by rw [ec]) ?_
       refine gT 0 (rP 166 (p++(w.set i (⟨((w[(i:Int).toNat]?.getD default).v - (c+(lv[(i:Int).toNat]?.getD default).v*t) % 4294967296 - o+4294967296*1)⟩:U32)++q)) junk) rfl Jd ?_
       refine dX ((i+1,(c+(lv[(i:Int).toNat]?.getD default).v*t) / 4294967296,1,w.set i (⟨((w[(i:Int).toNat]?.getD default).v - (c+(lv[(i:Int).toNat]?.getD default).v*t) % 4294967296 - o+4294967296*1)⟩:U32))) ?_ ?_
       · exact ⟨by omega,by rw [aI];exact hwn,rS hdw _ qX,by omega,by omega,by decide,by decide,by omega,tP hdrop _,vR (c':=(c+(lv[(i:Int).toNat]?.getD default).v*t)) (b:=o) (b':=1) qX hval tL (by rw [←ex])⟩
       show u.length - (i+1)<u.length - i
       omega
     refine aM 31 [1,1] ?_
     refine eO (α:=U32) T.sl87 ?_
     refine iD 0 T.one166 ?_
     refine aP (bV rfl T.u165 rfl qX) ?_
     refine aC 1 [] ?_
     refine aP (nZ rfl rfl sW) ?_
     refine aP (gA rfl rfl qX) ?_
     refine aL 7 [] ?_
     refine aP (cL T.sl87 rfl rfl qX) ?_
     refine aP (jL 0 T.one166 rfl rfl qX) ?_
     refine aP (bV rfl T.u165 rfl qX) ?_
     refine aC 1 [] ?_
     refine aP (oA rfl rfl qX) ?_
     refine aP (gY rfl rfl qX) ?_
     refine aC 1 [] ?_
     refine aP (gY rfl rfl qX) ?_
     refine aL 6 [] ?_
     refine aP (dV rfl rfl qX) ?_
     refine aL 8 [] ?_
     refine aP (iF rfl T.u166 rfl qX) ?_
     refine aP (cL T.sl87 rfl rfl qX) ?_
     refine oF 0 T.size166 rfl rfl rfl qX ?_
     refine aL 4 [] ?_
     refine aP (dV rfl rfl qX) ?_
     refine aP (mP rfl rfl qX) ?_
     refine bA 8 [] ?_
     have es:((w[(i:Int).toNat]?.getD default).v - (c+(lv[(i:Int).toNat]?.getD default).v*t) % 4294967296 - o)=((w[(i:Int).toNat]?.getD default).v - (c+(lv[(i:Int).toNat]?.getD default).v*t) % 4294967296 - o+4294967296*0):=qX
     have ec:((w[(i:Int).toNat]?.getD default).v - (c+(lv[(i:Int).toNat]?.getD default).v*t) % 4294967296 - o) / 4294967296 % 2=0:=qX
     refine cS 8 rfl (show _=Value.int .u64 0 by rw [ec]) ?_
     refine gT 0 (rP 166 (p++(w.set i (⟨((w[(i:Int).toNat]?.getD default).v - (c+(lv[(i:Int).toNat]?.getD default).v*t) % 4294967296 - o+4294967296*0)⟩:U32)++q)) junk) rfl Jd ?_
     refine dX ((i+1,(c+(lv[(i:Int).toNat]?.getD default).v*t) / 4294967296,0,w.set i (⟨((w[(i:Int).toNat]?.getD default).v - (c+(lv[(i:Int).toNat]?.getD default).v*t) % 4294967296 - o+4294967296*0)⟩:U32))) ?_ ?_
     · exact ⟨by omega,by rw [aI];exact hwn,rS hdw _ qX,by omega,by omega,by decide,by decide,by omega,tP hdrop _,vR (c':=(c+(lv[(i:Int).toNat]?.getD default).v*t)) (b:=o) (b':=0) qX hval tL (by rw [←ex])⟩
     show u.length - (i+1)<u.length - i
     omega
   have z:=yC hib
   by_cases hlt:(w[((i:Nat):Int).toNat]?.getD default).v<(c) % 4294967296
   · refine aM 33 [1,0] ?_
     refine aP (cL T.sl87 rfl rfl qX) ?_
     refine aP (jL 0 T.one166 rfl rfl qX) ?_
     refine aP (bV rfl T.u165 rfl qX) ?_
     refine aC 1 [] ?_
     refine aP (oA rfl rfl qX) ?_
     refine aP (oV rfl rfl qX) ?_
     refine aC 1 [] ?_
     refine aP (gY rfl rfl qX) ?_
     refine aL 6 [] ?_
     refine aP (dV rfl rfl qX) ?_
     refine aL 8 [] ?_
     refine aP (fL rfl T.u166 rfl) ?_
     refine aP (cL T.sl87 rfl rfl qX) ?_
     refine oF 0 T.size166 rfl rfl rfl qX ?_
     refine aL 4 [] ?_
     refine aP (dV rfl rfl qX) ?_
     refine aP (mP rfl rfl qX) ?_
     refine bA 8 [] ?_
     have es:((w[(i:Int).toNat]?.getD default).v - (c) % 4294967296+18446744073709551616 - o) % 4294967296=((w[(i:Int).toNat]?.getD default).v - (c) % 4294967296 - o+4294967296*1):=qX
     have ec:((w[(i:Int).toNat]?.getD default).v - (c) % 4294967296+18446744073709551616 - o) / 4294967296 % 2=1:=qX
     refine cS 8 rfl (show _=Value.int .u64 1 by rw [ec]) ?_
     refine gT 0 (rP 166 (p++(w.set i (⟨((w[(i:Int).toNat]?.getD default).v - (c) % 4294967296 - o+4294967296*1)⟩:U32)++q)) junk) rfl Jd ?_
     refine dX ((i+1,(c) / 4294967296,1,w.set i (⟨((w[(i:Int).toNat]?.getD default).v - (c) % 4294967296 - o+4294967296*1)⟩:U32))) ?_ ?_
     · exact ⟨by omega,by rw [aI];exact hwn,rS hdw _ qX,by omega,by omega,by decide,by decide,by intro _;omega,tP hdrop _,vR (c':=(c)) (b:=o) (b':=1) qX hval Xf (by rw [←ex])⟩
     show u.length - (i+1)<u.length - i
     omega
   by_cases hlt2:(w[((i:Nat):Int).toNat]?.getD default).v - (c) % 4294967296<o
   · refine aM 33 [1,0] ?_
     refine aP (cL T.sl87 rfl rfl qX) ?_
     refine aP (jL 0 T.one166 rfl rfl qX) ?_
     refine aP (bV rfl T.u165 rfl qX) ?_
     refine aC 1 [] ?_
     refine aP (oA rfl rfl qX) ?_
     refine aP (gY rfl rfl qX) ?_
     refine aC 1 [] ?_
     refine aP (oV rfl rfl qX) ?_
     refine aL 6 [] ?_
     refine aP (dV rfl rfl qX) ?_
     refine aL 8 [] ?_
     refine aP (fL rfl T.u166 rfl) ?_
     refine aP (cL T.sl87 rfl rfl qX) ?_
     refine oF 0 T.size166 rfl rfl rfl qX ?_
     refine aL 4 [] ?_
     refine aP (dV rfl rfl qX) ?_
     refine aP (mP rfl rfl qX) ?_
     refine bA 8 [] ?_
     have es:((w[(i:Int).toNat]?.getD default).v - (c) % 4294967296 - o+18446744073709551616) % 4294967296=((w[(i:Int).toNat]?.getD default).v - (c) % 4294967296 - o+4294967296*1):=qX
     have ec:((w[(i:Int).toNat]?.getD default).v - (c) % 4294967296 - o+18446744073709551616) / 4294967296 % 2=1:=qX
     refine cS 8 rfl (show _=Value.int .u64 1 by rw [ec]) ?_
     refine gT 0 (rP 166 (p++(w.set i (⟨((w[(i:Int).toNat]?.getD default).v - (c) % 4294967296 - o+4294967296*1)⟩:U32)++q)) junk) rfl Jd ?_
     refine dX ((i+1,(c) / 4294967296,1,w.set i (⟨((w[(i:Int).toNat]?.getD default).v - (c) % 4294967296 - o+4294967296*1)⟩:U32))) ?_ ?_
     · exact ⟨by omega,by rw [aI];exact hwn,rS hdw _ qX,by omega,by omega,by decide,by decide,by intro _;omega,tP hdrop _,vR (c':=(c)) (b:=o) (b':=1) qX hval Xf (by rw [←ex])⟩
     show u.length - (i+1)<u.length - i
     omega
   refine aM 33 [1,0] ?_
   refine aP (cL T.sl87 rfl rfl qX) ?_
   refine aP (jL 0 T.one166 rfl rfl qX) ?_
   refine aP (bV rfl T.u165 rfl qX) ?_
   refine aC 1 [] ?_
   refine aP (oA rfl rfl qX) ?_
   refine aP (gY rfl rfl qX) ?_
   refine aC 1 [] ?_
   refine aP (gY rfl rfl qX) ?_
   refine aL 6 [] ?_
   refine aP (dV rfl rfl qX) ?_
   refine aL 8 [] ?_
   refine aP (iF rfl T.u166 rfl qX) ?_
   refine aP (cL T.sl87 rfl rfl qX) ?_
   refine oF 0 T.size166 rfl rfl rfl qX ?_
   refine aL 4 [] ?_
   refine aP (dV rfl rfl qX) ?_
   refine aP (mP rfl rfl qX) ?_
   refine bA 8 [] ?_
   have es:((w[(i:Int).toNat]?.getD default).v - (c) % 4294967296 - o)=((w[(i:Int).toNat]?.getD default).v - (c) % 4294967296 - o+4294967296*0):=qX
   have ec:((w[(i:Int).toNat]?.getD default).v - (c) % 4294967296 - o) / 4294967296 % 2=0:=qX
   refine cS 8 rfl (show _=Value.int .u64 0 by rw [ec]) ?_
   refine gT 0 (rP 166 (p++(w.set i (⟨((w[(i:Int).toNat]?.getD default).v - (c) % 4294967296 - o+4294967296*0)⟩:U32)++q)) junk) rfl Jd ?_
   refine dX ((i+1,(c) / 4294967296,0,w.set i (⟨((w[(i:Int).toNat]?.getD default).v - (c) % 4294967296 - o+4294967296*0)⟩:U32))) ?_ ?_
   · exact ⟨by omega,by rw [aI];exact hwn,rS hdw _ qX,by omega,by omega,by decide,by decide,by intro _;omega,tP hdrop _,vR (c':=(c)) (b:=o) (b':=0) qX hval Xf (by rw [←ex])⟩
   show u.length - (i+1)<u.length - i
   omega
 have hii:i=u.length:=qX
 subst hii
 have hc:=hcz qX
 subst hc
 refine bQ 20 [0] ?_
 refine pW [0] ?_
 rw [rQ (aE _),rQ qX,rQ qX,gL] at hval
 exact ⟨w,o,rfl,rfl,rfl,by omega,hwn,hdw,hval⟩
end
theorem Yx {u v:List U32} {m:Nat} (hu:u.length=m+3) (hv:v.length=m+2) (du:Lims u) (dv:Lims v) (h:qZ u<4294967296*qZ v):lg u (m+2)*4294967296+lg u (m+1)<lg v (m+1)*4294967296+4294967296:=by
 have e1:=DY hu
 have e2:=Yp hv
 have e3:=uM dv (show m≤v.length by omega)
 have e4:=uM du (show m≤u.length by omega)
 have a0:=sV dv m
 have b0:=sV du m
 have hp:=uK m
 generalize lg u (m+2)*4294967296+lg u (m+1)=high at *
 generalize lg v (m+1)=v1 at *
 generalize lg v m=v0 at *
 generalize lg u m=u0 at *
 refine Int.lt_of_mul_lt_mul_left (a:=pb m*4294967296) ?_ qX
 have f1:=bD (show v0+4294967296*v1+1≤v1*4294967296+4294967296 by omega) (cB hp)
 have f2:=jP (cB hp) b0.1
 rw [bT,iM] at f1
 rw [bT,←dL] at e1
 have f3:pb m*4294967296*(v1*4294967296+4294967296)=4294967296*(pb m*(v1*4294967296+4294967296)):=by rw [cQ (pb m) 4294967296,dL]
 rw [f3]
 omega
section
attribute [local irreducible] qZ pb sG
theorem ON (G:Imm) (b:Nat) (p u q:List U32) (junk:List Value) (cw:Nat) (v:Option Addr) (cv:Nat) (lv:List U32) (m:Nat) (hv:Arr G v lv) (du:Lims u) (dv:Lims lv) (h1:u.length≤1073741824) (hu:u.length=m+3) (hl:lv.length=m+2) (htop:2147483648≤lg lv (m+1)) (hlt:qZ u<4294967296*qZ lv) :
 Does Tryz.prog 203 [.slice (some ⟨b,p.length,none⟩) u.length cw,.slice v lv.length cv] G [(0,some b,rP 166 (p++(u++q)) junk)] (fun r G' Ho=>∃ (w:List U32) (g:Int),r=.int .u32 g∧Ho=[(0,some b,rP 166 (p++(w++q)) junk)]∧G'=G∧0≤g∧g<4294967296∧w.length=u.length∧Lims w∧qZ w=qZ u - g*qZ lv∧qZ w<qZ lv):=by
 have hU2:=sV du (m+2)
 have hU1:=sV du (m+1)
 have hU0:=sV du m
 have hV1:=sV dv (m+1)
 have hV0:=sV dv m
 have eu2:(u[((lv.length:Nat):Int).toNat]?.getD default).v=lg u (m+2):=by unfold lg;rw [hl]
 have eu1:(u[(((lv.length:Nat):Int) - 1).toNat]?.getD default).v=lg u (m+1):=by unfold lg;rw [show (((lv.length:Nat):Int) - 1).toNat=((m+1:Nat):Int).toNat by omega]
 have eu0:(u[(((lv.length:Nat):Int) - 2).toNat]?.getD default).v=lg u m:=by unfold lg;rw [show (((lv.length:Nat):Int) - 2).toNat=(m:Int).toNat by omega]
 have ev1:(lv[(((lv.length:Nat):Int) - 1).toNat]?.getD default).v=lg lv (m+1):=by unfold lg;rw [show (((lv.length:Nat):Int) - 1).toNat=((m+1:Nat):Int).toNat by omega]
 have ev0:(lv[(((lv.length:Nat):Int) - 2).toNat]?.getD default).v=lg lv m:=by unfold lg;rw [show (((lv.length:Nat):Int) - 2).toNat=(m:Int).toNat by omega]
 refine D0 Tryz.func203 Tryz.ntmps203 fun w=>?_
 have hp1:0<lg lv (m+1):=qX
 obtain ⟨high,hhigh⟩:∃ high,high=lg u (m+2)*4294967296+lg u (m+1):=⟨_,rfl⟩
 obtain ⟨hk1,hk2,hk3,hk4,hk5⟩:=Yq hu hl du dv hhigh hp1 rfl rfl
 have hq:=Int.ediv_le_self (lg lv (m+1)) (show 0≤high by omega)
 have hVm:0<qZ lv:=by
  have:=Yp hl
  have h3:=uM dv (show m≤lv.length by omega)
  have h4:=Int.mul_pos (uK m) (show 0<lg lv m+4294967296*lg lv (m+1) by omega)
  omega
 have hUp:qZ u<4294967296*qZ lv:=hlt
 have hbrk:high<lg lv (m+1)*4294967296+4294967296:=hhigh▸Yx hu hl du dv hlt
 refine cZ 5 [] ?_
 refine Wc.scope ?_
 refine cZ 8 [] ?_
 refine eZ [0] [] T.mixed [[0],[1]] ?_
 refine gQ 2 [] rfl (cL T.sl87 rfl rfl qX) ?_
 refine gQ 3 [0] rfl (jL 0 T.one166 rfl rfl qX) ?_
 refine gQ 4 [] rfl (bV rfl T.u165 rfl qX) ?_
 refine gQ 5 [] rfl (qG rfl rfl qX) ?_
 refine fE [[6],[7],[8]] ?_
 refine gQ 9 [] rfl (cL T.sl87 rfl rfl qX) ?_
 refine gQ 10 [0] rfl (jL 0 T.one166 rfl rfl qX) ?_
 refine gQ 11 [] rfl (bV rfl T.u165 rfl qX) ?_
 refine gQ 12 [] rfl (Ag rfl rfl qX qX) ?_
 refine fE [[13]] ?_
 refine eI ?_
 refine bW ?_
 refine Aa (ι:=Int×Int) (fun (g,r)=>([(0,.slice (some ⟨b,p.length,none⟩) u.length cw),(1,.slice v lv.length cv),(5,.int .i64 (lv.length:Int)),(7,.int .u64 g),(8,.int .u64 r),(4,.int .u32 0)],[(0,some b,rP 166 (p++(u++q)) junk)])) (fun (g,r)=>g*lg lv (m+1)+r=high∧0≤g∧g≤18446744073709551615∧0≤r∧r<4294967296∧qZ u<(g+1)*qZ lv) ?_ fun ⟨g,r⟩=>fun (hk:g*lg lv (m+1)+r=high∧0≤g∧g≤18446744073709551615∧0≤r∧r<4294967296∧qZ u<(g+1)*qZ lv)=>?_
 · refine eZ [0] [] T.mixed [[0],[1],[2],[3]] ?_
   refine qL (α:=U32) 4 T.sl87 ?_
   refine Ff 5 [0] 0 T.one166 ?_
   refine gQ 6 [] rfl (bV rfl T.u165 rfl qX) ?_
   refine gQ 7 [] rfl (Jk rfl rfl qX) ?_
   refine fE [[8],[9],[10],[11]] ?_
   refine qL (α:=U32) 12 T.sl87 ?_
   refine Ff 13 [0] 0 T.one166 ?_
   refine gQ 14 [] rfl (bV rfl T.u165 rfl qX) ?_
   refine gQ 15 [] rfl (Ds rfl rfl qX) ?_
   refine fE [[16],[17]] ?_
   refine eI ?_
   refine cS 7 rfl (show _=Value.int .u64 (high / lg lv (m+1)) by rw [eu2,eu1,ev1,hhigh]) ?_
   refine cS 8 rfl (show _=Value.int .u64 (high % lg lv (m+1)) by rw [eu2,eu1,ev1,hhigh]) ?_
   refine Ar.mt ((high / lg lv (m+1),high % lg lv (m+1))) ?_
   exact ⟨hk1,hk2,by omega,hk3,by omega,hk5⟩
 obtain ⟨hg1,hg2,hg3,hr1,hr2,hgu⟩:=hk
 clear hk1 hk2 hk3 hk4 hk5 hq
 refine cZ 3 [] ?_
 refine Aa (ι:=Int) (fun gg=>([(0,.slice (some ⟨b,p.length,none⟩) u.length cw),(1,.slice v lv.length cv),(5,.int .i64 (lv.length:Int)),(7,.int .u64 gg),(4,.int .u32 0)],[(0,some b,rP 166 (p++(u++q)) junk)])) (fun gg=>0≤gg∧gg<4294967296∧qZ u<(gg+1)*qZ lv∧(gg - 1)*qZ lv≤qZ u) ?_ fun gg=>fun (hk:0≤gg∧gg<4294967296∧qZ u<(gg+1)*qZ lv∧(gg - 1)*qZ lv≤qZ u)=>?_
 · refine Wc.block ?_
   refine iE (ι:=Int×Int) (fun (g,r)=>([(7,.int .u64 g),(8,.int .u64 r),(0,.slice (some (Addr.mk b (List.length p) none)) (List.length u) cw),(1,.slice v (List.length lv) cv),(5,.int .i64 (lv.length:Int)),(4,.int .u32 0)],[(0,some b,rP 166 (p++(u++q)) junk)])) (fun (g,r)=>g*lg lv (m+1)+r=high∧0≤g∧g≤18446744073709551615∧0≤r∧r<4294967296∧qZ u<(g+1)*qZ lv) (fun (g,r)=>(4294967296 - r).toNat) ((g,r)) (⟨hg1,hg2,hg3,hr1,hr2,hgu⟩) fun ⟨g,r⟩=>fun (hk:g*lg lv (m+1)+r=high∧0≤g∧g≤18446744073709551615∧0≤r∧r<4294967296∧qZ u<(g+1)*qZ lv)=>?_
   clear hg1 hg2 hg3 hr1 hr2 hgu
   obtain ⟨hg1,hg2,hg3,hr1,hr2,hgu⟩:=hk
   have dec:4294967296≤g∨r*4294967296+lg u m<g*lg lv m→1≤g∧(g - 1)*lg lv (m+1)+(r+lg lv (m+1))=high∧qZ u<(g - 1+1)*qZ lv:=fun hd=>by
    have hg0:1≤g:=by
     rcases hd with hd | hd
     · omega
     rcases (show g=0∨1≤g by omega) with h | h
     · rw [h,lB] at hd;omega
     exact h
    refine ⟨hg0,by rw [pB,fZ];omega,?_⟩
    rw [show g - 1+1=g by omega]
    rcases hd with hd | hd
    · have:=eS hd (cB hVm)
      omega
    exact HI hu hl du dv hhigh hg1 hg2 hd
   have brk:(g - 1)*lg lv (m+1)+(r+lg lv (m+1))=high→qZ u<(g - 1+1)*qZ lv→4294967296≤r+lg lv (m+1)→1≤g→0≤g - 1∧g - 1<4294967296∧qZ u<(g - 1+1)*qZ lv∧(g - 1 - 1)*qZ lv≤qZ u:=fun h h2 h3 h4=>by
    have hlt':=Yo h h3 hp1 hbrk
    have hm0:=xK ⟨(show 0≤g - 1 by omega),hlt'⟩ hV0
    exact ⟨by omega,hlt',h2,Yr hu hl du dv hhigh h ⟨by omega,hlt'⟩ qX qX⟩
   by_cases hgb:g<4294967296
   · have hm0:=xK ⟨hg2,hgb⟩ hV0
     have hm:0≤g*(lv[(((lv.length:Nat):Int) - 2).toNat]?.getD default).v∧g*(lv[(((lv.length:Nat):Int) - 2).toNat]?.getD default).v≤18446744073709551615:=by rw [ev0];omega
     by_cases hcond:r*4294967296+lg u m<g*lg lv m
     · obtain ⟨hg0,hnx,hnu⟩:=dec (.inr hcond)
       have hcond':r*4294967296+(u[(((lv.length:Nat):Int) - 2).toNat]?.getD default).v<g*(lv[(((lv.length:Nat):Int) - 2).toNat]?.getD default).v:=by rw [eu0,ev0];exact hcond
       refine cZ 2 [] ?_
       refine eZ [0] [] T.mixed [[0]] ?_
       refine gQ 1 [] rfl (dV rfl rfl qX) ?_
       refine fE [[2],[3]] ?_
       refine Xp 45 rfl sW ?_
       refine fE [[4],[5],[6],[7]] ?_
       refine pG 8 [] rfl (Qy.at (α:=U32) T.sl87 rfl rfl qY qX) ?_
       refine pG 9 [0] rfl (dH T.one166 rfl (oE qY qX 0 rfl rfl)) ?_
       refine pG 10 [] rfl (bV rfl T.u165 rfl qX) ?_
       refine pG 11 [] rfl (nZ rfl rfl sW) ?_
       refine fE [[12]] ?_
       refine pG 13 [] rfl (qG rfl rfl qX) ?_
       refine fE [[14],[15],[16]] ?_
       refine pG 17 [] rfl (cL T.sl87 rfl rfl qX) ?_
       refine pG 18 [0] rfl (jL 0 T.one166 rfl rfl qX) ?_
       refine pG 19 [] rfl (bV rfl T.u165 rfl qX) ?_
       refine pG 20 [] rfl (Ag rfl rfl qX qX) ?_
       refine fE [[21],[22]] ?_
       refine eI ?_
       refine pX 8 [1] ?_
       refine aP (gY rfl rfl qX) ?_
       refine aL 9 [] ?_
       refine eO (α:=U32) T.sl87 ?_
       refine iD 0 T.one166 ?_
       refine aP (bV rfl T.u165 rfl qX) ?_
       refine aP (gA rfl rfl qX) ?_
       refine aL 6 [] ?_
       refine aP (dV rfl rfl qX) ?_
       refine bP 3 [] ?_
       refine eX (fun hc1=>?_) fun hc1=>?_
       refine bQ 4 [] ?_
       rotate_left
       refine bQ 2 [] ?_
       rotate_left
       · refine cS 7 rfl rfl ?_
         refine Ar.mt (g - 1) ?_
         exact brk hnx hnu (by rw [←ev1];omega) hg0
       refine cS 8 rfl (show _=Value.int .u64 (r+lg lv (m+1)) by rw [ev1]) ?_
       refine dX ((g - 1,r+lg lv (m+1))) ?_ ?_
       · exact ⟨hnx,by omega,by omega,by omega,by rw [←ev1];omega,hnu⟩
       show (4294967296 - (r+lg lv (m+1))).toNat<(4294967296 - r).toNat
       omega
     have hcond':¬r*4294967296+(u[(((lv.length:Nat):Int) - 2).toNat]?.getD default).v<g*(lv[(((lv.length:Nat):Int) - 2).toNat]?.getD default).v:=by rw [eu0,ev0];exact hcond
     refine cZ 2 [] ?_
     refine eZ [0] [] T.mixed [[0]] ?_
     refine gQ 1 [] rfl (dV rfl rfl qX) ?_
     refine fE [[2],[3]] ?_
     refine Xp 45 rfl sW ?_
     refine fE [[4],[5],[6],[7]] ?_
     refine pG 8 [] rfl (Qy.at (α:=U32) T.sl87 rfl rfl qY qX) ?_
     refine pG 9 [0] rfl (dH T.one166 rfl (oE qY qX 0 rfl rfl)) ?_
     refine pG 10 [] rfl (bV rfl T.u165 rfl qX) ?_
     refine pG 11 [] rfl (nZ rfl rfl sW) ?_
     refine fE [[12]] ?_
     refine pG 13 [] rfl (qG rfl rfl qX) ?_
     refine fE [[14],[15],[16]] ?_
     refine pG 17 [] rfl (cL T.sl87 rfl rfl qX) ?_
     refine pG 18 [0] rfl (jL 0 T.one166 rfl rfl qX) ?_
     refine pG 19 [] rfl (bV rfl T.u165 rfl qX) ?_
     refine pG 20 [] rfl (Ag rfl rfl qX qX) ?_
     refine fE [[21],[22]] ?_
     refine eI ?_
     refine iN 6 [0] ?_
     refine Ar.mt (g) ?_
     exact ⟨hg2,hgb,hgu,Yr hu hl du dv hhigh hg1 ⟨hg2,hgb⟩ qX qX⟩
   obtain ⟨hg0,hnx,hnu⟩:=dec (.inl qX)
   refine cZ 2 [] ?_
   refine eZ [0] [] T.mixed [[0]] ?_
   refine gQ 1 [] rfl (dV rfl rfl qX) ?_
   refine fE [[2],[3]] ?_
   refine Pv 45 rfl sW ?_
   refine fE [[4],[5],[6],[7],[8],[9],[10],[11],[12],[13],[14],[15],[16],[17],[18],[19],[20],[21],[22]] ?_
   refine eI ?_
   refine pX 8 [1] ?_
   refine aP (gY rfl rfl qX) ?_
   refine aL 9 [] ?_
   refine eO (α:=U32) T.sl87 ?_
   refine iD 0 T.one166 ?_
   refine aP (bV rfl T.u165 rfl qX) ?_
   refine aP (gA rfl rfl qX) ?_
   refine aL 6 [] ?_
   refine aP (dV rfl rfl qX) ?_
   refine bP 3 [] ?_
   refine eX (fun hc1=>?_) fun hc1=>?_
   refine bQ 4 [] ?_
   rotate_left
   refine bQ 2 [] ?_
   rotate_left
   · refine cS 7 rfl rfl ?_
     refine Ar.mt (g - 1) ?_
     exact brk hnx hnu (by rw [←ev1];omega) hg0
   refine cS 8 rfl (show _=Value.int .u64 (r+lg lv (m+1)) by rw [ev1]) ?_
   refine dX ((g - 1,r+lg lv (m+1))) ?_ ?_
   · exact ⟨hnx,by omega,by omega,by omega,by rw [←ev1];omega,hnu⟩
   show (4294967296 - (r+lg lv (m+1))).toNat<(4294967296 - r).toNat
   omega
 clear hg1 hg2 hg3 hr1 hr2 hgu
 obtain ⟨hg1,hg2,hg3,hg4⟩:=hk
 refine aM 6 [] ?_
 refine cX 0 rfl (OM _ b p u q junk cw v cv lv gg hv du dv h1 qX ⟨hg1,hg2⟩) fun r1 G1 Ho1 hle1 hp=>?_
 obtain ⟨lw1,lo1,rfl,rfl,rfl,hlo1,hln1,hld1,hlv1⟩:=hp
 have hfew:=tC hld1
 have hnn:=rR hld1
 rcases hlo1 with hlo1 | hlo1
 · subst hlo1
   rw [dJ,oJ] at hlv1
   refine aP (eK rfl) ?_
   refine aL 6 [1] ?_
   refine aP (iF rfl T.u166 rfl qX) ?_
   refine bA 5 [] ?_
   refine pS ?_
   refine pW [0] ?_
   refine ⟨lw1,gg,rfl,rfl,rfl,hg1,hg2,hln1,hld1,hlv1.symm,?_⟩
   rw [mI,fZ] at hg3
   omega
 subst hlo1
 rw [iM,←hln1] at hlv1
 have hover:qZ u<gg*qZ lv:=qX
 have hgp:1≤gg:=by
  rcases (show gg=0∨1≤gg by omega) with h | h
  · rw [h,lB] at hover
    have:=rR du
    omega
  exact h
 refine aP (eK rfl) ?_
 refine aL 8 [0] ?_
 refine aP (gY rfl rfl qX) ?_
 refine bP 17 [] ?_
 refine iE (ι:=Nat×Int×List U32) (fun (i,c,z)=>([(89,.int .i64 (i:Int)),(9,.int .u64 c),(88,.int .i64 (u.length:Int)),(7,.int .u64 (gg - 1)),(0,.slice (some (Addr.mk b (List.length p) none)) (List.length u) cw),(1,.slice v (List.length lv) cv),(5,.int .i64 (lv.length:Int)),(4,.int .u32 0)],[(0,some b,rP 166 (p++(z++q)) junk)])) (fun (i,c,z)=>i≤lw1.length∧z.length=lw1.length∧Lims z∧0≤c∧c≤1∧z.drop i=lw1.drop i∧qZ (lw1.take i)+qZ (lv.take i)=qZ (z.take i)+pb i*c) (fun (i,c,z)=>lw1.length - i) ((0,0,lw1)) (⟨aZ _,rfl,hld1,by decide,by decide,rfl,by rw [bY,bY,rW,dJ]⟩) fun ⟨i,c,z⟩=>fun hk=>?_
 obtain ⟨hi,hzn,hzd,hc0,hc1,hdrop,hval⟩:=hk
 rcases aR i lw1.length with hia | hia
 · have hx:0≤(z[(i:Int).toNat]?.getD default).v∧(z[(i:Int).toNat]?.getD default).v<4294967296:=wN hzd qX
   have ex:(z[(i:Int).toNat]?.getD default).v=lg lw1 i:=Sp hdrop
   rcases aR i lv.length with hib | hib
   · have hy:0≤(lv[(i:Int).toNat]?.getD default).v∧(lv[(i:Int).toNat]?.getD default).v<4294967296:=wN dv hib
     refine aM 22 [1] ?_
     refine aP (cL T.sl87 rfl rfl qX) ?_
     refine aP (jL 0 T.one166 rfl rfl qX) ?_
     refine aP (bV rfl T.u165 rfl qX) ?_
     refine aP (gA rfl rfl qX) ?_
     refine aL 16 [1] ?_
     refine eO (α:=U32) T.sl87 ?_
     refine iD 0 T.one166 ?_
     refine aP (bV rfl T.u165 rfl qX) ?_
     refine aP (gA rfl rfl qX) ?_
     refine aL 8 [] ?_
     refine aP (fL rfl T.u166 rfl) ?_
     refine aP (cL T.sl87 rfl rfl qX) ?_
     refine oF 0 T.size166 rfl rfl rfl qX ?_
     refine aL 4 [] ?_
     refine aP (dV rfl rfl qX) ?_
     refine bA 8 [] ?_
     refine gT 0 (rP 166 (p++(z.set i (⟨(c+(z[(i:Int).toNat]?.getD default).v+(lv[(i:Int).toNat]?.getD default).v) % 4294967296⟩:U32)++q)) junk) rfl Mu ?_
     refine dX ((i+1,(c+(z[(i:Int).toNat]?.getD default).v+(lv[(i:Int).toNat]?.getD default).v) / 4294967296,z.set i (⟨(c+(z[(i:Int).toNat]?.getD default).v+(lv[(i:Int).toNat]?.getD default).v) % 4294967296⟩:U32))) ?_ ?_
     · exact ⟨by omega,by rw [aI];exact hzn,rS hzd _ (yZ _),by omega,by omega,tP hdrop _,Ah qX hval (by rw [ex];rfl)⟩
     show lw1.length - (i+1)<lw1.length - i
     omega
   have hz0:=yC hib
   refine aM 22 [1] ?_
   refine aP (cL T.sl87 rfl rfl qX) ?_
   refine aP (jL 0 T.one166 rfl rfl qX) ?_
   refine aP (bV rfl T.u165 rfl qX) ?_
   refine aP (gA rfl rfl qX) ?_
   refine aL 19 [0] ?_
   refine aP (fL rfl T.u166 rfl) ?_
   refine aP (cL T.sl87 rfl rfl qX) ?_
   refine oF 0 T.size166 rfl rfl rfl qX ?_
   refine aL 4 [] ?_
   refine aP (dV rfl rfl qX) ?_
   refine bA 8 [] ?_
   refine gT 0 (rP 166 (p++(z.set i (⟨(c+(z[(i:Int).toNat]?.getD default).v) % 4294967296⟩:U32)++q)) junk) rfl Mu ?_
   refine dX ((i+1,(c+(z[(i:Int).toNat]?.getD default).v) / 4294967296,z.set i (⟨(c+(z[(i:Int).toNat]?.getD default).v) % 4294967296⟩:U32))) ?_ ?_
   · exact ⟨by omega,by rw [aI];exact hzn,rS hzd _ (yZ _),by omega,by omega,tP hdrop _,Ah qX hval (by rw [ex,hz0,gL])⟩
   show lw1.length - (i+1)<lw1.length - i
   omega
 have hii:i=lw1.length:=qX
 subst hii
 have hvl:=tC dv
 have hpl:=Jm (show lv.length≤lw1.length by omega)
 have hback:=Ys (g:=gg) (u:=u) (n:=lw1.length) qX hg4 hover rfl hzn qX qX hzd ⟨hc0,hc1⟩ hval
 refine aM 15 [0] ?_
 refine aP (iF rfl T.u166 rfl qX) ?_
 refine bA 4 [] ?_
 refine pS ?_
 refine pW [0] ?_
 refine ⟨z,gg - 1,rfl,rfl,rfl,by omega,by omega,by omega,hzd,hback,?_⟩
 rw [pB,fZ] at hback
 omega
end
theorem uV {s:Nat} (hs:s≤32):∃ Q:Int,((2 ^ s:Nat):Int)*Q=4294967296∧0<Q∧0<((2 ^ s:Nat):Int):=by
 refine ⟨((2 ^ (32 - s):Nat):Int),?_,?_,?_⟩
 · rw [←cF,←nO,Nat.add_sub_cancel' hs];decide
 · have:0<2 ^ (32 - s):=mF rI
   omega
 have:0<2 ^ s:=mF rI
 omega
theorem Vc {X:Int} {s:Nat} (hs:s≤32) (hX:0≤X∧X<4294967296):(X*((2 ^ s:Nat):Int)) % 4294967296 % ((2 ^ s:Nat):Int)=0∧0≤X*((2 ^ s:Nat):Int) / 4294967296∧X*((2 ^ s:Nat):Int) / 4294967296<((2 ^ s:Nat):Int)∧0≤X*((2 ^ s:Nat):Int)∧X*((2 ^ s:Nat):Int)<18446744073709551616:=by
 obtain ⟨Q,h1,h2,h3⟩:=uV hs
 generalize ((2 ^ s:Nat):Int)=P at *
 have hn:=jP hX.1 (cB h3)
 have hlt:=Int.mul_lt_mul_of_pos_right hX.2 h3
 have hP:P≤4294967296:=by
  have:=bD (show 1≤Q by omega) (cB h3)
  omega
 refine ⟨?_,mK hn rI,lI rI (by rw [cQ P];exact hlt),hn,by omega⟩
 rw [Int.emod_emod_of_dvd _ ⟨Q,h1.symm⟩]
 exact Int.mul_emod_left X P
theorem Yy {la r:List U32} {i d:Nat} {P hi lo:Int} (hk:i+d+1<r.length) (hz:lg r (i+d+1)=0) (hv:qZ r=pb d*P*qZ (la.take i)) (hlo:lo=lg r (i+d)+lg la i*P % 4294967296) (hhi:hi=lg la i*P / 4294967296) :
 qZ ((r.set (i+d) ⟨lo⟩).set (i+d+1) ⟨hi⟩)=pb d*P*qZ (la.take (i+1)):=by
 rw [wZ _ _ _ (by rw [aI];exact hk),wZ r _ _ qX,uU qX,hz,rZ,hv,hlo,hhi,tZ,Qg]
 have h1:=Lo (pb i*pb d) (lg la i*P)
 show pb d*P*qZ (la.take i)+pb i*pb d*(lg r (i+d)+lg la i*P % 4294967296 - lg r (i+d))+4294967296*(pb i*pb d)*(lg la i*P / 4294967296 - 0)=_
 have e1:lg r (i+d)+lg la i*P % 4294967296 - lg r (i+d)=lg la i*P % 4294967296:=qX
 have e2:pb d*P*(pb i*lg la i)=pb i*pb d*(lg la i*P):=by
  rw [cQ (pb i) (pb d),dL,dL,cQ (lg la i) P,dK P]
 rw [e1,oJ,bT,e2,←h1]
 omega
theorem Nu {A0 A1:Int} {s:Nat} (hs:s≤32) (h0:0≤A0∧A0<4294967296) (h1:0≤A1∧A1<4294967296):((2 ^ s:Nat):Int)*(((A1*4294967296+A0) / ((2 ^ s:Nat):Int)) % 4294967296)=4294967296*(A1 % ((2 ^ s:Nat):Int))+A0 - A0 % ((2 ^ s:Nat):Int):=by
 obtain ⟨Q,hQ,hQ0,hP⟩:=uV hs
 generalize ((2 ^ s:Nat):Int)=P at *
 have e0:=gV A0 P
 have e1:=gV A1 P
 have n0:=iY A0 (mX hP)
 have l0:=dM A0 hP
 have n1:=iY A1 (mX hP)
 have l1:=dM A1 hP
 have q0:=mK h0.1 (cB hP)
 have q0':A0 / P<Q:=lI hP (by rw [cQ];omega)
 generalize A0 % P=r0 at *
 generalize A1 % P=r1 at *
 generalize A0 / P=y0 at *
 generalize A1 / P=y1 at *
 have e2:A1*4294967296+A0=r0+P*(A1*Q+y0):=by
  rw [bT,dK P,hQ];omega
 have e3:(A1*4294967296+A0) / P=A1*Q+y0:=by
  rw [e2,Int.add_mul_ediv_left _ _ (mX hP),oK n0 l0,mV]
 have e4:A1*Q+y0=r1*Q+y0+4294967296*y1:=by
  rw [←e1,mI,←hQ,Int.mul_right_comm P Q y1,dL P y1 Q];omega
 have f1:=jP n1 (cB hQ0)
 have f2:=eS (show r1+1≤P by omega) (cB hQ0)
 rw [mI,fZ,hQ] at f2
 have e5:(A1*Q+y0) % 4294967296=r1*Q+y0:=by
  rw [e4,Int.add_mul_emod_self_left,Int.emod_eq_of_lt qX qX]
 rw [e3,e5,bT,dK P r1 Q,hQ]
 omega
theorem Nv {m r:List U32} {i:Nat} {P out ρ:Int} (hi:i<r.length) (hv:P*qZ (r.take i)+ρ=qZ (m.take i)+pb i*(lg m i % P)) (ho:P*out=4294967296*(lg m (i+1) % P)+lg m i - lg m i % P) :
 P*qZ ((r.set i ⟨out⟩).take (i+1))+ρ=qZ (m.take (i+1))+pb (i+1)*(lg m (i+1) % P):=by
 rw [rZ (r.set i _),rZ m,zG hi,kD (aE i),tZ,bT,dK P,ho,kV,bT,dK (pb i) 4294967296]
 rw [dL]
 omega
theorem EE {m r:List U32} {P:Int} (hP:0<P) (hn:r.length=m.length) (hv:P*qZ (r.take m.length)+lg m 0 % P=qZ (m.take m.length)+pb m.length*(lg m m.length % P)):qZ r=qZ m / P:=by
 rw [rQ qX,rQ (aE _),yC (aE _),Int.zero_emod,dJ,gL] at hv
 rw [←hv,Int.add_comm,Int.add_mul_ediv_left _ _ (mX hP),oK (iY _ (mX hP)) (dM _ hP),mV]
theorem Yz {x y:Int} {s:Nat} (hs:s≤32) (hx:x<((2 ^ s:Nat):Int)) (h0:0≤x) (hy:0≤y∧y<4294967296) (hm:y % ((2 ^ s:Nat):Int)=0):0≤x+y∧x+y<4294967296:=by
 obtain ⟨Q,hQ,hQ0,hP⟩:=uV hs
 generalize ((2 ^ s:Nat):Int)=P at *
 refine ⟨by omega,?_⟩
 have h1:=gV y P
 rw [hm,mV] at h1
 have h2:y / P<Q:=lI hP (by rw [cQ];omega)
 have h3:=bD (show y / P+1≤Q by omega) (cB hP)
 rw [bT,iM,hQ,h1] at h3
 omega
section
attribute [local irreducible] qZ pb sG
theorem JZ (G:Imm) (a:Option Addr) (ca:Nat) (la:List U32) (d s:Nat) (ha:Arr G a la) (da:Lims la) (h1:la.length≤1073741824) (hs:s<32) (hd:d≤1000) :
 Does Tryz.prog 110 [.slice a la.length ca,.int .i64 ((32*d+s:Nat):Int)] G [] (fun v G' Ho=>∃ r,v=.tuple #[r,.int .i64 0]∧Nat32 G' r (pb d*((2 ^ s:Nat):Int)*qZ la) (la.length+d+1)∧Ho=[]):=by
 refine D0 Tryz.func110 Tryz.ntmps110 fun w=>?_
 have ed:((32*d+s:Nat):Int) / 32=(d:Int):=qX
 have es:((32*d+s:Nat):Int) % 32=(s:Int):=qX
 have hP:0<((2 ^ s:Nat):Int):=(uV qX).choose_spec.2.2
 refine aM 31 [0,0] ?_
 refine aP (oH rfl rfl qX) ?_
 refine aC 2 [] ?_
 refine jT (α:=U32) 0 rfl T.sl87 T.el166 rfl rfl qX qX fun b1=>?_
 refine aL 6 [] ?_
 refine aP (Ds rfl rfl qX) ?_
 refine bP 12 [] ?_
 obtain ⟨N,hN⟩:∃ N,N=la.length+d+1:=⟨_,rfl⟩
 have hM:((la.length:Int)+((32*d+s:Nat):Int) / 32+1).toNat=N:=qX
 rw [hM]
 have hown:∀ r:List U32,r.length=N→OwnA (some ⟨b1,0,none⟩) N r []:=fun r hr=>.inr ⟨b1,rfl,by rw [hr];rfl,by omega,by simp only [maxLen];omega⟩
 refine kR 6 rfl (show _=Value.slice (some ⟨b1,0,none⟩) (List.replicate N (default:U32)).length N by rw [aH]) ?_
 refine kR 7 rfl (show _=Value.int .i64 (s:Int) by rw [es]) ?_
 refine iE (ι:=Nat×List U32) (fun (i,r)=>([(26,.int .i64 (i:Int)),(6,.slice (some ⟨b1,0,none⟩) r.length N),(7,.int .i64 (↑s:Int)),(25,.int .i64 (la.length:Int)),(24,.slice a (List.length la) ca),(5,.int .i64 0),(4,.slice none 0 0),(1,.int .i64 (↑(32*d+s):Int))],[(0,some b1,rP 166 r [])])) (fun (i,r)=>i≤la.length∧r.length=N∧Lims r∧qZ r=pb d*((2 ^ s:Nat):Int)*qZ (la.take i)∧lg r (i+d)<((2 ^ s:Nat):Int)∧∀ k,i+d<k→lg r k=0) (fun (i,r)=>la.length - i) ((0,List.replicate N (default:U32))) (⟨aZ _,aH,lS N,by rw [bY,rW,dJ];exact vY N,by rw [Ak];exact hP,fun k _=>Ak N k⟩) fun ⟨i,r⟩=>fun hk=>?_
 obtain ⟨hi,hrN,hdr,hv,hlow,hz⟩:=hk
 have hor:=hown r hrN
 rcases aR i la.length with hia | hia
 · have hx:0≤(la[(i:Int).toNat]?.getD default).v∧(la[(i:Int).toNat]?.getD default).v<4294967296:=wN da hia
   have ekk:((i:Int)+((32*d+s:Nat):Int) / 32).toNat=i+d:=qX
   have hpt:=Vc (s:=s) qX hx
   refine aM 14 [1] ?_
   refine eO (α:=U32) T.sl87 ?_
   refine iD 0 T.one166 ?_
   refine aL 7 [] ?_
   refine aP (bV rfl T.u165 rfl qX) ?_
   refine aC 1 [] ?_
   refine aP (DU rfl rfl qX qX) ?_
   refine aL 8 [] ?_
   refine aP (oH rfl rfl qX) ?_
   refine aC 1 [] ?_
   refine jE (α:=U32) T.sl87 ?_
   refine Wl.lo 0 0 T.one166 ?_
   refine aC 1 [] ?_
   refine aP (fL rfl T.u166 rfl) ?_
   refine aP (En rfl rfl) ?_
   refine jE (α:=U32) T.sl87 ?_
   refine fS (z:=_) 0 T.size166 rfl rfl rfl qY qX rfl fun ho1=>?_
   refine aL 6 [] ?_
   refine aP (oH rfl rfl qX) ?_
   refine aC 2 [] ?_
   refine jE (α:=U32) T.sl87 ?_
   obtain ⟨r1,hr1⟩:∃ r1,r1=r.set (i+d) (⟨lg r (i+d)+(la[(i:Int).toNat]?.getD default).v*((2 ^ s:Nat):Int) % 4294967296⟩:U32):=⟨_,rfl⟩
   have hk0:=sV hdr (i+d)
   have hlo:bits BinOp.or IntKind.u32 (r[((i:Int)+((32*d+s:Nat):Int) / 32).toNat]?.getD default).v ((la[(i:Int).toNat]?.getD default).v*((2 ^ s:Nat):Int) % 4294967296)=lg r (i+d)+(la[(i:Int).toNat]?.getD default).v*((2 ^ s:Nat):Int) % 4294967296:=by
    rw [ekk]
    exact Dc _ _ s ⟨hk0.1,hlow⟩ (yZ _) qX hpt.1
   have hr1N:r1.length=N:=by rw [hr1,aI];exact hrN
   have hsum:=Yz (s:=s) qX hlow hk0.1 (yZ _) hpt.1
   have hd1:Lims r1:=by rw [hr1];exact rS hdr _ hsum
   have hz1:lg r1 (i+d+1)=0:=by rw [hr1,uU qX];exact hz _ qX
   have hor1:=hown r1 hr1N
   refine mZ 0 (rP 166 r1 []) rfl ?_ ?_
   · show rP 166 (r.set ((i:Int)+((32*d+s:Nat):Int) / 32).toNat ⟨bits BinOp.or IntKind.u32 (r[((i:Int)+((32*d+s:Nat):Int) / 32).toNat]?.getD default).v ((la[(i:Int).toNat]?.getD default).v*((2 ^ s:Nat):Int) % 4294967296)⟩) []=_
     rw [hlo,ekk,hr1]
   skip
   refine aP (Ac (m:=(i:Int)+((32*d+s:Nat):Int) / 32+1) (c:=N) (xs:=r1) (junk:=[]) 0 0 T.one166 rfl rfl hor1 qX rfl rfl) ?_
   refine aC 1 [] ?_
   refine aP (dV rfl rfl qX) ?_
   refine aP (iF rfl T.u166 rfl qX) ?_
   refine aP (En rfl rfl) ?_
   refine jE (α:=U32) T.sl87 ?_
   refine fS (z:=_) 0 T.size166 rfl rfl rfl qY qX rfl fun ho2=>?_
   refine bA 7 [] ?_
   have hhi:bits BinOp.or IntKind.u32 (r1[((i:Int)+((32*d+s:Nat):Int) / 32+1).toNat]?.getD default).v ((la[(i:Int).toNat]?.getD default).v*((2 ^ s:Nat):Int) / 4294967296)=(la[(i:Int).toNat]?.getD default).v*((2 ^ s:Nat):Int) / 4294967296:=by
    rw [show ((i:Int)+((32*d+s:Nat):Int) / 32+1).toNat=i+d+1 by omega,show (r1[i+d+1]?.getD default).v=0 by simpa only [lg,aN] using hz1]
    rw [Dc 0 _ 0 rI qX rI (Int.emod_one _),mV]
   obtain ⟨r2,hr2⟩:∃ r2,r2=r1.set (i+d+1) (⟨(la[(i:Int).toNat]?.getD default).v*((2 ^ s:Nat):Int) / 4294967296⟩:U32):=⟨_,rfl⟩
   refine gT 0 (rP 166 r2 []) rfl ?_ ?_
   · show rP 166 (r1.set ((i:Int)+((32*d+s:Nat):Int) / 32+1).toNat ⟨bits BinOp.or IntKind.u32 (r1[((i:Int)+((32*d+s:Nat):Int) / 32+1).toNat]?.getD default).v ((la[(i:Int).toNat]?.getD default).v*((2 ^ s:Nat):Int) / 4294967296)⟩) []=_
     rw [hhi,show ((i:Int)+((32*d+s:Nat):Int) / 32+1).toNat=i+d+1 by omega,hr2]
   have hr2N:r2.length=N:=by rw [hr2,aI];exact hr1N
   refine cS 6 rfl (show _=Value.slice (some ⟨b1,0,none⟩) r2.length N by rw [hr2N,hrN]) ?_
   have hlt32:=(uV (s:=s) qX)
   refine dX ((i+1,r2)) ?_ ?_
   · refine ⟨by omega,hr2N,by rw [hr2];exact rS hd1 _ ⟨hpt.2.1,by omega⟩,?_,?_,?_⟩
     · rw [hr2,hr1]
       exact Yy qX (hz _ qX) hv rfl rfl
     · rw [show i+1+d=i+d+1 by omega,hr2,zG qX]
       exact hpt.2.2.1
     intro k hk
     rw [hr2,uU qX,hr1,uU qX]
     exact hz k qX
   show la.length - (i+1)<la.length - i
   omega
 rw [rQ hia] at hv
 refine aM 15 [0] ?_
 refine fT 0 rfl hor fun G9 hle9 hA=>?_
 refine cX 1 rfl (Dm _ _ _ _ qY qX sW) fun v1 G1 Ho1 hle1 hp=>?_
 obtain ⟨ta1,tm1,rfl,hta1,hte1,htr1,htl1,rfl,rfl⟩:=hp
 refine bA 5 [] ?_
 refine eJ ?_
 exact ⟨_,rfl,mE hta1 hte1 htr1 hdr hv qX,rfl⟩
theorem OO (G:Imm) (a:Option Addr) (ca:Nat) (la:List U32) (s:Nat) (ha:Arr G a la) (da:Lims la) (h1:la.length≤1073741824) (hca:la.length≤ca) (hs:s<32) :
 Does Tryz.prog 204 [.slice a la.length ca,.int .i64 (s:Int)] G [] (fun v G' Ho=>∃ r,v=.tuple #[r,.int .i64 0]∧Nat32 G' r (qZ la / ((2 ^ s:Nat):Int)) la.length∧Ho=[]):=by
 refine D0 Tryz.func204 Tryz.ntmps204 fun w=>?_
 have ed:(s:Int) / 32=0:=qX
 have es:(s:Int) % 32=(s:Int):=qX
 have hP:0<((2 ^ s:Nat):Int):=(uV qX).choose_spec.2.2
 refine aM 19 [0] ?_
 refine cX 0 rfl (Dm _ _ _ _ qY qX sW) fun v1 G1 Ho1 hle1 hp=>?_
 obtain ⟨ta1,tm1,rfl,hta1,hte1,htr1,htl1,rfl,rfl⟩:=hp
 refine aL 7 [] ?_
 refine aP (oH rfl rfl qX) ?_
 refine bP 5 [] ?_
 refine eX (fun hc1=>?_) fun hc1=>?_
 refine bQ 8 [] ?_
 refine eJ ?_
 rotate_left
 refine aM 6 [] ?_
 refine aP (oH rfl rfl qX) ?_
 refine aP (DH T.sl87 rfl rfl qX qX) ?_
 refine aL 6 [] ?_
 refine aP (Ds rfl rfl qX) ?_
 refine aL 7 [] ?_
 refine jT (α:=U32) 0 rfl T.sl87 T.el166 rfl rfl qX qX fun b1=>?_
 refine bP 12 [] ?_
 rotate_left
 · have hz:tm1=[]:=cA qX
   have hv0:qZ la=0:=by rw [←tO hte1 htr1,hz,rW]
   refine ⟨_,rfl,⟨none,[],rfl,pQ _,Lims.nil,Top.nil,?_,aZ _⟩,rfl⟩
   rw [hv0,Int.zero_ediv,rW]
 have dm:=tH hte1 da
 have hta2:Arr G1 (subA ta1 tm1.length 0 1) tm1:=by
  have h2:=Fj (c:=tm1.length) (sz:=1) hta1 tm1.length
  rw [rQ (aE _)] at h2
  exact h2
 obtain ⟨tb,htb⟩:∃ tb,tb=subA ta1 tm1.length 0 1:=⟨_,rfl⟩
 rw [←htb] at hta2
 obtain ⟨N,hN⟩:∃ N,N=tm1.length:=⟨_,rfl⟩
 have hM:(((tm1.length - ((s:Int) / 32).toNat:Nat):Int)).toNat=N:=qX
 rw [hM]
 have hown:∀ r:List U32,r.length=N→OwnA (some ⟨b1,0,none⟩) N r []:=fun r hr=>.inr ⟨b1,rfl,by rw [hr];rfl,by omega,by simp only [maxLen];omega⟩
 refine kR 7 rfl (show _=Value.slice (some ⟨b1,0,none⟩) (List.replicate N (default:U32)).length N by rw [aH]) ?_
 refine kR 6 rfl (show _=Value.int .i64 (s:Int) by rw [es]) ?_
 refine kR 0 rfl (show _=Value.slice tb tm1.length tm1.length by rw [ed,htb];rfl) ?_
 refine kR 29 rfl (show _=Value.slice tb tm1.length tm1.length by rw [ed,htb];rfl) ?_
 refine kR 30 rfl (show _=Value.int .i64 (tm1.length:Int) by rw [ed];rfl) ?_
 refine iE (ι:=Nat×List U32) (fun (i,r)=>([(31,.int .i64 (i:Int)),(7,.slice (some ⟨b1,0,none⟩) r.length N),(30,.int .i64 (tm1.length:Int)),(29,.slice tb (List.length tm1) (List.length tm1)),(0,.slice tb (List.length tm1) (List.length tm1)),(6,.int .i64 (↑s:Int)),(5,.int .i64 0),(4,.slice none 0 0)],[(0,some b1,rP 166 r [])])) (fun (i,r)=>i≤tm1.length∧r.length=N∧Lims r∧((2 ^ s:Nat):Int)*qZ (r.take i)+lg tm1 0 % ((2 ^ s:Nat):Int)=qZ (tm1.take i)+pb i*(lg tm1 i % ((2 ^ s:Nat):Int))) (fun (i,r)=>tm1.length - i) ((0,List.replicate N (default:U32))) (⟨aZ _,aH,lS N,by rw [bY,bY,rW,dJ,Dt,fZ]⟩) fun ⟨i,r⟩=>fun hk=>?_
 obtain ⟨hi,hrN,hdr,hv⟩:=hk
 have hor:=hown r hrN
 rcases aR i tm1.length with hia | hia
 · have hx:0≤(tm1[(i:Int).toNat]?.getD default).v∧(tm1[(i:Int).toNat]?.getD default).v<4294967296:=wN dm hia
   have ex:(tm1[(i:Int).toNat]?.getD default).v=lg tm1 i:=rfl
   have ex1:(tm1[((i:Int)+1).toNat]?.getD default).v=lg tm1 (i+1):=by unfold lg;rw [show ((i:Int)+1).toNat=((i+1:Nat):Int).toNat by omega]
   have hy:0≤(tm1[((i:Int)+1).toNat]?.getD default).v∧(tm1[((i:Int)+1).toNat]?.getD default).v<4294967296:=by rw [ex1];exact sV dm _
   by_cases hib:i+1<tm1.length
   · refine aM 14 [1] ?_
     refine eO (α:=U32) T.sl87 ?_
     refine iD 0 T.one166 ?_
     refine aL 7 [] ?_
     refine aP (bV rfl T.u165 rfl qX) ?_
     refine aL 19 [1] ?_
     refine eO (α:=U32) T.sl87 ?_
     refine dS rfl (dH T.one166 rfl (oE qY qX 0 rfl rfl)) ?_
     refine aP (bV rfl T.u165 rfl qX) ?_
     refine aP (qG rfl rfl qX) ?_
     refine aP (Uz rfl rfl qX qX) ?_
     refine aL 8 [] ?_
     refine aP (Sn rfl rfl qX qX) ?_
     refine aP (fL rfl T.u166 rfl) ?_
     refine dS rfl (nV (α:=U32) T.sl87 rfl rfl qY qX) ?_
     refine fS (z:=_) 0 T.size166 rfl rfl rfl qY qX rfl fun ho1=>?_
     refine bA 7 [] ?_
     obtain ⟨out,hout⟩:∃ out,out=((tm1[((i:Int)+1).toNat]?.getD default).v*4294967296+(tm1[(i:Int).toNat]?.getD default).v) / ((2 ^ s:Nat):Int) % 4294967296:=⟨_,rfl⟩
     have hpart:((2 ^ s:Nat):Int)*out=4294967296*(lg tm1 (i+1) % ((2 ^ s:Nat):Int))+lg tm1 i - lg tm1 i % ((2 ^ s:Nat):Int):=by
      rw [hout,ex,ex1];exact Nu qX (sV dm i) (sV dm (i+1))
     refine gT 0 (rP 166 (r.set i (⟨out⟩:U32)) []) rfl (by rw [hout,aN]) ?_
     refine cS 7 rfl (show _=Value.slice (some ⟨b1,0,none⟩) (r.set i (⟨out⟩:U32)).length N by rw [aI]) ?_
     refine dX ((i+1,r.set i (⟨out⟩:U32))) ?_ ?_
     · exact ⟨by omega,by rw [aI];exact hrN,rS hdr _ (by rw [hout];exact yZ _),Nv qX hv hpart⟩
     show tm1.length - (i+1)<tm1.length - i
     omega
   have hz0:=yC (show tm1.length≤i+1 by omega)
   refine aM 14 [1] ?_
   refine eO (α:=U32) T.sl87 ?_
   refine iD 0 T.one166 ?_
   refine aL 7 [] ?_
   refine aP (bV rfl T.u165 rfl qX) ?_
   refine aL 21 [0] ?_
   refine aP (Sn rfl rfl qX qX) ?_
   refine aP (fL rfl T.u166 rfl) ?_
   refine jE (α:=U32) T.sl87 ?_
   refine fS (z:=_) 0 T.size166 rfl rfl rfl qY qX rfl fun ho1=>?_
   refine bA 7 [] ?_
   obtain ⟨out,hout⟩:∃ out,out=(tm1[(i:Int).toNat]?.getD default).v / ((2 ^ s:Nat):Int) % 4294967296:=⟨_,rfl⟩
   have hpart:((2 ^ s:Nat):Int)*out=4294967296*(lg tm1 (i+1) % ((2 ^ s:Nat):Int))+lg tm1 i - lg tm1 i % ((2 ^ s:Nat):Int):=by
    rw [hout,show (tm1[(i:Int).toNat]?.getD default).v=lg tm1 (i+1)*4294967296+lg tm1 i by rw [hz0,lB,mV];rfl];exact Nu qX (sV dm i) (sV dm (i+1))
   refine gT 0 (rP 166 (r.set i (⟨out⟩:U32)) []) rfl (by rw [hout,aN]) ?_
   refine cS 7 rfl (show _=Value.slice (some ⟨b1,0,none⟩) (r.set i (⟨out⟩:U32)).length N by rw [aI]) ?_
   refine dX ((i+1,r.set i (⟨out⟩:U32))) ?_ ?_
   · exact ⟨by omega,by rw [aI];exact hrN,rS hdr _ (by rw [hout];exact yZ _),Nv qX hv hpart⟩
   show tm1.length - (i+1)<tm1.length - i
   omega
 have hii:i=tm1.length:=qX
 subst hii
 have hval:=EE hP qX hv
 refine aM 15 [0] ?_
 refine fT 0 rfl hor fun G9 hle9 hA=>?_
 refine cX 1 rfl (Dm _ _ _ _ qY qX sW) fun v2 G2 Ho2 hle2 hp=>?_
 obtain ⟨ta2,tm2,rfl,hta2,hte2,htr2,htl2,rfl,rfl⟩:=hp
 refine bA 5 [] ?_
 refine eJ ?_
 rw [tO hte1 htr1] at hval
 exact ⟨_,rfl,mE hta2 hte2 htr2 hdr hval qX,rfl⟩
end
end Go.Proofs.YtngphgeghfdjbaaGreatDoor
namespace Go.Sl
open Go
section
variable {P:Program} {ops:Array Oper} {rest:List Oper} {B:Bs} {e:Env} {D:List Deferred} {H:Hp} {G:Imm} {K:Act→World→Prop}
 {ty:TypeId} {pos:String} {after:Array Edge} {d:Nat} {α:Type} [Cells α]
theorem Ir {w:World} (hw:HoldH H G w) {T E bytes:Nat} {zs:List Value} (hT:rH P T E (Cells.sz α)) (hE:ElemOf P E (Cells.sz α) bytes zs) {a ad:Option Addr} {c2:Nat} {xs ys:List α}
 (hA:Src H G a xs) (hx0:0<xs.length) (hsrc:Src H G ad ys) (hy0:0<ys.length) (hb:(xs.length+ys.length)*bytes≤140737488355328) (hl:xs.length+ys.length≤maxLen) :
 ∃ c' junk' w',(Builtin.append_ #[T,T] ty #[.slice a xs.length xs.length,.slice ad ys.length c2]).run P w=.ok (.slice (some ⟨w.heap.size,0,none⟩) (xs++ys).length c') w'∧OwnA (some ⟨w.heap.size,0,none⟩) c' (xs++ys) junk'∧
  Upd (fun _=>False) w w'∧w'.heap.size=w.heap.size+1∧w'.heap[w.heap.size]?=some (rP E (xs++ys) junk'):=by
 obtain ⟨i,z,hi,hz1,hz2,hs,hby,hzl,hsz⟩:=hE
 have hm63:xs.length+ys.length≤9223372036854775807:=by simp only [maxLen] at hl;omega
 have hlen:(xs++ys).length=xs.length+ys.length:=aQ
 have hyl:(rO ys).length=ys.length*i.size:=by rw [rK,hs]
 have hxl:(rO xs).length=xs.length*i.size:=by rw [rK,hs]
 have junkLen:∀ k,(Builtin.zeroCells z.cells k).toList.length=k*Cells.sz α:=fun k=>by
  rw [kE,size_zeroCells,hz2];simp [hzl]
 have fresh:∀ old,old<xs.length+ys.length→∃ junk',OwnA (some ⟨w.heap.size,0,none⟩) (grownCap w (xs.length+ys.length) old E) (xs++ys) junk'∧
  (w.drew.alloc (.cells ((rO xs).toArray++(rO ys).toArray++Builtin.zeroCells z.cells (grownCap w (xs.length+ys.length) old E - (xs.length+ys.length))) E)).heap[w.heap.size]?=some (rP E (xs++ys) junk'):=fun old hold=>by
  have hge:=grownCap_ge w (xs.length+ys.length) old E
  have hcm:grownCap w (xs.length+ys.length) old E≤maxLen:=pY w _ old E hl
  refine ⟨(Builtin.zeroCells z.cells (grownCap w (xs.length+ys.length) old E - (xs.length+ys.length))).toList,.inr ⟨_,rfl,?_,by rw [hlen];exact hge,hcm⟩,?_⟩
  · rw [junkLen,hlen,←dI];congr 1;omega
  rw [show w.heap.size=w.drew.heap.size from rfl,rY]
  congr 1
  simp [rP,uA]
 have hupd:∀ o,Upd (fun _=>False) w (w.drew.alloc o):=fun o=>(jF _ w).drew.alloc o
 rcases hA w hw with ⟨_,h0⟩ | ⟨ax,rfl,hcell⟩
 · rw [h0] at hx0;simp at hx0
 rcases hsrc w hw with ⟨_,h0⟩ | ⟨src,rfl,hsr⟩
 · rw [h0] at hy0;simp at hy0
 have hr:=run_append_grow (P:=P) w T ty E i z hT.1 hi hz1 ax xs.length xs.length (rO xs) hxl hcell src ys.length c2 (rO ys) hyl hsr qX qX (growslice_fits qX (by rw [hby];exact hb))
 obtain ⟨junk',h1,h2⟩:=fresh xs.length qX
 exact ⟨_,junk',_,by rw [hlen];exact hr,h1,hupd _,by simp,h2⟩
theorem Lq {s x:Operand} {T E bytes:Nat} {zs:List Value} {a ad:Option Addr} {c2:Nat} {xs ys:List α} (t:Nat) (hn:Nat.ble (d+1) B.n=true) (hT:rH P T E (Cells.sz α)) (hE:ElemOf P E (Cells.sz α) bytes zs)
 (hs:e.ev s=some (.slice a xs.length xs.length)) (hx:e.ev x=some (.slice ad ys.length c2)) (hA:Src H G a xs) (hx0:0<xs.length) (hsrc:Src H G ad ys) (hy0:0<ys.length)
 (hb:(xs.length+ys.length)*bytes≤140737488355328) (hl:xs.length+ys.length≤maxLen)
 (h:∀ b c' junk',OwnA (some ⟨b,0,none⟩) c' (xs++ys) junk'→Wl P ops rest B ⟨(d,.slice (some ⟨b,0,none⟩) (xs++ys).length c') :: e,D,(t,some b,rP E (xs++ys) junk') :: H,G⟩ K) :
 Wl P ops (⟨some d,.call { callee:=.builtin .append,args:=#[s,x],argTypes:=#[T,T] },ty,pos,after,none⟩ :: rest) B ⟨e,D,H,G⟩ K:=by
 intro ac w hh
 obtain ⟨c',junk',w',hrun,ho',hu,hsz,hbk⟩:=Ir (c2:=c2) (ty:=ty) hh.mem hT hE hA hx0 hsrc hy0 hb hl
 unfold rM
 rw [aT (by simp [Region.wanted])]
 unfold vO
 have hex:(execOp ac.eval ⟨some d,.call { callee:=.builtin .append,args:=#[s,x],argTypes:=#[T,T] },ty,pos,after,none⟩).run P w=.ok (.value (.slice (some ⟨w.heap.size,0,none⟩) (xs++ys).length c')) w':=by
  simp only [execOp,resolve,invoke,builtin,aY,bB,aG,lO,bK,iQ,hh.eval hs,hh.eval hx,hrun]
 rw [hex]
 exact h _ c' junk' ho' _ _ (Hold.put (hh.ownNew t hu hsz hbk) hn _)
end
end Go.Sl
namespace Go.Proofs.YtngphgeghfdjbaaGreatDoor
open Go Go.Sl
theorem vS {l:List U32} (h:Lims l) (k:Nat):Lims (l.drop k):=fun d hd=>h d (List.mem_of_mem_drop hd)
theorem zA:∀ (f x:Nat),0<x→x<2 ^ f→1≤Lib.bitLenAux f x∧Lib.bitLenAux f x≤f∧2 ^ (Lib.bitLenAux f x - 1)≤x∧x<2 ^ Lib.bitLenAux f x
 | 0,x,h0,h1=>by simp at h1;omega
 | f+1,x,h0,h1=>by
   unfold Lib.bitLenAux
   rw [aF (by omega)]
   by_cases h2:x / 2=0
   · have hx:x=1:=qX
     subst hx
     have:Lib.bitLenAux f (1 / 2)=0:=by cases f <;> simp [Lib.bitLenAux]
     rw [this];simp
   have ih:=zA f (x / 2) qX (by rw [kX] at h1;omega)
   obtain ⟨a1,a2,a3,a4⟩:=ih
   refine ⟨by omega,by omega,?_,?_⟩
   · rw [iJ,←Nat.sub_add_cancel a1,kX];omega
   rw [Nat.add_comm 1,kX];omega
theorem Vd {x:Int} (h0:0<x) (h1:x<4294967296):∃ s:Nat,s<32∧32 - (Lib.bitLen x.toNat:Int)=(s:Int)∧2147483648≤((2 ^ s:Nat):Int)*x∧((2 ^ s:Nat):Int)*(x+1)≤4294967296:=by
 have hb:=zA 64 x.toNat qX (by have:(2:Nat) ^ 64=18446744073709551616:=rI;omega)
 have hle:=Lib.bitLen_le x.toNat 32 qX qX
 unfold Lib.bitLen at hle ⊢
 generalize Lib.bitLenAux 64 x.toNat=L at *
 obtain ⟨b1,b2,b3,b4⟩:=hb
 refine ⟨32 - L,by omega,by omega,?_,?_⟩
 · have e:2 ^ (32 - L)*2 ^ (L - 1)=2147483648:=by
    rw [←nO,show 32 - L+(L - 1)=31 by omega]
   have h2:=gG (2 ^ (32 - L)) b3
   rw [e] at h2
   have h3:((2 ^ (32 - L):Nat):Int)*x=((2 ^ (32 - L)*x.toNat:Nat):Int):=by rw [cF,cN qX]
   rw [h3];omega
 have e:2 ^ (32 - L)*2 ^ L=4294967296:=by
  rw [←nO,show 32 - L+L=32 by omega]
 have h2:=gG (2 ^ (32 - L)) (show x.toNat+1≤2 ^ L by omega)
 rw [e] at h2
 have h3:((2 ^ (32 - L):Nat):Int)*(x+1)=((2 ^ (32 - L)*(x.toNat+1):Nat):Int):=by rw [cF,iX,cN qX];rfl
 rw [h3];omega
theorem Za {b v:List U32} {m:Nat} {P:Int} (hP:0<P) (hb:b.length=m+2) (db:Lims b) (dv:Lims v) (tv:Top v) (hx:2147483648≤P*lg b (m+1)) (hx2:P*(lg b (m+1)+1)≤4294967296) (hv:qZ v=P*qZ b):v.length=m+2∧2147483648≤lg v (m+1):=by
 have e1:=rZ b (m+1)
 rw [rQ (show b.length≤m+1+1 by omega)] at e1
 have h1:=tC (db.take (m+1))
 have h2:=rR (db.take (m+1))
 rw [bJ,eM qX] at h1
 have hp:=uK (m+1)
 have up:qZ v<pb (m+2):=by
  have f1:=Int.mul_lt_mul_of_pos_left (show qZ b<pb (m+1)*(lg b (m+1)+1) by rw [bT,iM];omega) hP
  have f2:=bD hx2 (cB hp)
  rw [hv,show m+2=m+1+1 by omega,tZ,cQ 4294967296]
  rw [dK P] at f1
  omega
 have low:pb (m+1)*2147483648≤qZ v:=by
  have f1:=bD (show pb (m+1)*lg b (m+1)≤qZ b by omega) (cB hP)
  have f2:=bD hx (cB hp)
  rw [hv]
  rw [dK P] at f1
  omega
 have l1:=Nn dv tv up
 have l2:m+2≤v.length:=by
  rcases aR v.length (m+2) with h | h
  · have f1:=tC dv
    have f2:=Jm (show v.length≤m+1 by omega)
    omega
  exact h
 have hl:v.length=m+2:=qX
 refine ⟨hl,?_⟩
 have e2:=rZ v (m+1)
 rw [rQ (show v.length≤m+1+1 by omega)] at e2
 have h3:=tC (dv.take (m+1))
 rw [bJ,eM qX] at h3
 rcases Int.lt_or_le (lg v (m+1)) 2147483648 with h | h
 · have f1:=bD (show lg v (m+1)+1≤2147483648 by omega) (cB hp)
   rw [bT,iM] at f1
   omega
 exact h
theorem Nw {x y:Int} (h:sG x y<0):x<y:=by
 unfold sG at h
 split at h
 · assumption
 split at h <;> omega
theorem Zb (R:List U32) (i n:Nat):R=R.take i++((R.drop i).take n++R.drop (i+n)):=by
 rw [←nF,dC,dC]
theorem Ve {u v:List U32} (du:Lims u) (dv:Lims v) (tv:Top v) (h0:0<v.length) (hl:v.length≤u.length):qZ ((u++[(default:U32)]).drop (u.length+1 - v.length))<qZ v:=by
 rw [dF qX,sI,yA]
 have h1:=tC (vS du (u.length+1 - v.length))
 rw [cU,show u.length - (u.length+1 - v.length)=v.length - 1 by omega] at h1
 have h2:=Du dv tv (fun e=>by rw [e] at h0;simp at h0)
 show qZ (u.drop (u.length+1 - v.length))+pb _*0<_
 rw [dJ];omega
theorem Zc {R v:List U32} {i n:Nat} (dR:Lims R) (dv:Lims v) (hi:i<R.length) (hn:v.length=n) (hl:i+(n+1)≤R.length) (h:qZ (R.drop (i+1))<qZ v) :
 qZ ((R.drop i).take (n+1))<4294967296*qZ v∧qZ (R.drop (i+(n+1)))=0:=by
 have e1:=tN hi
 have e2:=vZ (R.drop i) (show n+1≤(R.drop i).length by rw [cU];omega)
 rw [nF] at e2
 have h1:=sV dR i
 have h2:=tC dv
 rw [hn] at h2
 have h3:=rR (vS dR (i+(n+1)))
 have h4:=rR ((vS dR i).take (n+1))
 have h5:=rR (vS dR (i+1))
 have hp:=uK (n+1)
 have h6:qZ (R.drop (i+(n+1)))=0:=by
  rcases (show qZ (R.drop (i+(n+1)))=0∨1≤qZ (R.drop (i+(n+1))) by omega) with hz | hz
  · exact hz
  have f1:=bD hz (cB hp)
  rw [iM] at f1
  have f2:=tZ n
  omega
 refine ⟨?_,h6⟩
 rw [h6,dJ] at e2
 omega
theorem EF {a b q R P:Int} (hP:0<P) (h:P*a=q*(P*b)+R) (h0:0≤R) (h1:R<P*b):R / P=a % b∧q=a / b∧0<b:=by
 have e:R=P*(a - q*b):=by rw [kV,dK P q];omega
 have e1:R / P=a - q*b:=by rw [e,Int.mul_ediv_cancel_left _ (mX hP)]
 have l0:0≤a - q*b:=by
  rw [e] at h0
  exact Int.le_of_mul_le_mul_left (by rw [dJ];exact h0) hP
 have l1:a - q*b<b:=by
  rw [e] at h1
  exact Int.lt_of_mul_lt_mul_left h1 (cB hP)
 have hb:0<b:=qX
 have:=(pE (a:=a) (b:=b) (r:=a - q*b) (q:=q) hb).2 ⟨by rw [cQ b q];omega,l0,l1⟩
 exact ⟨e1.trans this.2.symm,this.1.symm,hb⟩
theorem yE {G:Imm} {v:Value} {z:Int} {n:Nat} {lb:List U32} (h:Nat32 G v z n) (db:Lims lb) (hz:z<qZ lb):Nat32 G v z lb.length:=by
 obtain ⟨b,m,h1,h2,h3,h4,h5,h6⟩:=h
 refine ⟨b,m,h1,h2,h3,h4,h5,?_⟩
 rcases aR lb.length m.length with h7 | h7
 · have:=vH db h3 h4 h7;omega
 exact h7
theorem OP (G:Imm) (x:Int) (h0:0≤x) (h1:x≤4294967295):Does Tryz.prog 202 [.int .u32 x] G [] (fun v G' Ho=>v=.int .i64 (32 - (Lib.bitLen x.toNat:Int))∧G'=G∧Ho=[]):=
 Fm fun w=>Tryz.bits_LeadingZeros32 x w h0 h1
theorem KA (G:Imm) (x:Int) (h0:0<x) (h1:x<4294967296):Does Tryz.prog 202 [.int .u32 x] G [] (fun v G' Ho=>∃ sh:Nat,v=.int .i64 (sh:Int)∧sh<32∧2147483648≤((2 ^ sh:Nat):Int)*x∧((2 ^ sh:Nat):Int)*(x+1)≤4294967296∧G'=G∧Ho=[]):=by
 obtain ⟨sh,h2,h3,h4,h5⟩:=Vd h0 h1
 exact (OP G x qX qX).mono fun v G' Ho _ ⟨e1,e2,e3⟩=>⟨sh,by rw [e1,h3],h2,h4,h5,e2,e3⟩
theorem GI (G:Imm) (a:Option Addr) (ca:Nat) (la:List U32) (s:Nat) (ha:Arr G a la) (da:Lims la) (h1:la.length≤1073741824) (hs:s<32) :
 Does Tryz.prog 110 [.slice a la.length ca,.int .i64 (s:Int)] G [] (fun v G' Ho=>∃ r,v=.tuple #[r,.int .i64 0]∧Nat32 G' r (((2 ^ s:Nat):Int)*qZ la) (la.length+1)∧Ho=[]):=by
 have h:=JZ G a ca la 0 s ha da h1 hs qX
 rw [show 32*0+s=s by omega,Dt,fZ] at h
 exact h
section
attribute [local irreducible] qZ pb sG rM
theorem OQ (G:Imm) (a b:Option Addr) (ca cb:Nat) (la lb:List U32) (ha:Arr G a la) (hb:Arr G b lb) (da:Lims la) (ta:Top la) (db:Lims lb) (h1:la.length≤536870912) (h2:lb.length≤536870912) (h3:la.length≤ca) (h4:lb.length≤cb) (hB:0<qZ lb) :
 Does Tryz.prog 158 [.slice a la.length ca,.slice b lb.length cb] G [] (fun v G' Ho=>∃ q r,v=.tuple #[q,r,.int .i64 0]∧Nat32 G' q (qZ la / qZ lb) la.length∧Nat32 G' r (qZ la % qZ lb) lb.length∧Ho=[]):=by
 have hA:=rR da
 refine D0 Tryz.func158 Tryz.ntmps158 fun w=>?_
 refine aM 10 [] ?_
 refine cX 0 rfl (Dm _ _ _ _ qY qX sW) fun v1 G1 Ho1 hle1 hp=>?_
 obtain ⟨ta1,tm1,rfl,hta1,hte1,htr1,htl1,rfl,rfl⟩:=hp
 refine bP 3 [] ?_
 have dm:=tH hte1 db
 have tp:=yD hte1 htr1
 have hV:=tO hte1 htr1
 have hpos:0<tm1.length:=by
  rcases iO tm1.length with h | h
  · have h5:=cA h
    rw [h5,rW] at hV
    omega
  exact h
 by_cases hlt:qZ la<qZ tm1
 · have hcmp:sG (qZ la) (qZ tm1)=-1:=Aj hlt
   refine aM 16 [0] ?_
   refine bS rfl (GH _ _ _ _ _ _ _ qY qY qY qY qX qX qX qX) ?_
   refine aL 7 [1] ?_
   refine cX 0 rfl (HJ _ _ _ _ qY Ms Ms) fun v2 G2 Ho2 hle2 hp=>?_
   obtain ⟨na2,nm2,rfl,hna2,hne2,hnt2,hnl2,rfl⟩:=hp
   replace ha:=ha.up hle2
   replace hb:=hb.up hle2
   replace hta1:=hta1.up hle2
   refine bA 7 [] ?_
   refine Ar.e3 ?_
   refine ⟨_,_,rfl,⟨none,[],rfl,pQ _,Lims.nil,Top.nil,?_,aZ _⟩,yE (mE hna2 hne2 hnt2 da ?_ (aE _)) db ?_,rfl⟩
   · rw [rW,oK hA qX]
   · rw [Int.emod_eq_of_lt hA qX]
   exact dM _ hB
 have hcmp:¬sG (qZ la) (qZ tm1)<0:=fun h=>hlt (Nw h)
 by_cases hone:tm1.length=1
 · have hv1:=Yk hone
   have hr1:=sV dm 0
   have e1:(tm1[(0:Int).toNat]?.getD default).v=lg tm1 0:=rfl
   have hb0:0<(tm1[(0:Int).toNat]?.getD default).v∧(tm1[(0:Int).toNat]?.getD default).v<4294967296:=by rw [e1];omega
   refine aM 16 [0] ?_
   refine bS rfl (GH _ _ _ _ _ _ _ qY qY qY qY qX qX qX qX) ?_
   refine aL 19 [0,1] ?_
   refine eO (α:=U32) T.sl87 ?_
   refine dS rfl (dH T.one166 rfl (oE qY qX 0 rfl rfl)) ?_
   refine cX 0 rfl (OL _ _ _ _ _ qY qY qX qX qX) fun v2 G2 Ho2 hle2 hp=>?_
   obtain ⟨dq2,dz2,dm2,rfl,⟨dqa2,dqm2,rfl,hdqa2,hdql2,hdqt2,hdqv2,hdqn2⟩,hdv2,hd02,hd12,rfl⟩:=hp
   replace ha:=ha.up hle2
   replace hb:=hb.up hle2
   replace hta1:=hta1.up hle2
   refine aL 13 [] ?_
   refine iC (α:=U32) 0 [⟨dm2⟩] rfl T.sl87 T.el166 rfl rfl rfl rfl rfl fun b1=>?_
   have hdl:Lims [(⟨dm2⟩:U32)]:=Lims.one qX
   refine fT 0 rfl (iG (xs:=[(⟨dm2⟩:U32)]) (by simp [maxLen])) fun G9 hle9 hA9=>?_
   replace hdqa2:=hdqa2.up hle9
   refine cX 1 rfl (HJ _ _ _ _ qY Ms Ms) fun v3 G3 Ho3 hle3 hp=>?_
   obtain ⟨na3,nm3,rfl,hna3,hne3,hnt3,hnl3,rfl⟩:=hp
   replace hA9:=hA9.up hle3
   replace hdqa2:=hdqa2.up hle3
   refine bA 7 [] ?_
   refine Ar.e3 ?_
   have hdu:=(pE (a:=qZ la) (b:=qZ lb) (r:=dm2) (q:=dz2) hB).2 ⟨by rw [cQ,←hV,hv1,←e1];omega,hd02,by rw [←hV,hv1,←e1];exact hd12⟩
   refine ⟨_,_,rfl,⟨dqa2,dqm2,rfl,hdqa2,hdql2,hdqt2,by rw [hdqv2,hdu.1],hdqn2⟩,yE (mE hna3 hne3 hnt3 hdl (by rw [yA,hdu.2]) (aE _)) db (dM _ hB),rfl⟩
 obtain ⟨m,hm⟩:∃ m,tm1.length=m+2:=⟨tm1.length - 2,by omega⟩
 have hx:=sV dm (m+1)
 have ex:(tm1[((tm1.length:Int) - 1).toNat]?.getD default).v=lg tm1 (m+1):=by unfold lg;rw [show ((tm1.length:Int) - 1).toNat=((m+1:Nat):Int).toNat by omega]
 have hx1:lg tm1 (m+1)≠0:=by
  rcases tp with h | h
  · rw [h] at hm;simp at hm
  unfold lg;rw [aN,show m+1=tm1.length - 1 by omega];exact h
 have hxb:0<(tm1[((tm1.length:Int) - 1).toNat]?.getD default).v∧(tm1[((tm1.length:Int) - 1).toNat]?.getD default).v<4294967296:=by rw [ex];omega
 refine aM 16 [0] ?_
 refine bS rfl (GH _ _ _ _ _ _ _ qY qY qY qY qX qX qX qX) ?_
 refine aL 23 [0,0] ?_
 refine eO (α:=U32) T.sl87 ?_
 refine iD 0 T.one166 ?_
 refine cX 0 rfl (KA _ _ qX qX) fun v2 G2 Ho2 hle2 hp=>?_
 obtain ⟨sh,rfl,hsh,hs1,hs2,rfl,rfl⟩:=hp
 refine aL 7 [] ?_
 refine cX 0 rfl (GI _ _ _ _ sh qY qY qX qX) fun v3 G3 Ho3 hle3 hp=>?_
 obtain ⟨sr3,rfl,⟨sa3,sm3,rfl,hsa3,hsl3,hst3,hsv3,hsn3⟩,rfl⟩:=hp
 replace ha:=ha.up hle3
 replace hb:=hb.up hle3
 replace hta1:=hta1.up hle3
 refine aL 11 [] ?_
 refine cX 0 rfl (GI _ _ _ _ sh qY qY qX qX) fun v4 G4 Ho4 hle4 hp=>?_
 obtain ⟨sr4,rfl,⟨sa4,sm4,rfl,hsa4,hsl4,hst4,hsv4,hsn4⟩,rfl⟩:=hp
 replace hsa3:=hsa3.up hle4
 replace ha:=ha.up hle4
 replace hb:=hb.up hle4
 replace hta1:=hta1.up hle4
 refine aL 10 [] ?_
 refine iC (α:=U32) 0 [⟨0⟩] rfl T.sl87 T.el166 rfl rfl rfl rfl rfl fun b1=>?_
 have hP:0<((2 ^ sh:Nat):Int):=(uV (s:=sh) qX).choose_spec.2.2
 obtain ⟨hvl,hvt⟩:=Za hP hm dm hsl3 hst3 (by rw [←ex];exact hs1) (by rw [←ex];exact hs2) hsv3
 have hge:qZ sm3≤qZ sm4:=by
  rw [hsv3,hsv4];exact bD qX (cB hP)
 have huv:sm3.length≤sm4.length:=by
  rcases aR sm4.length sm3.length with h | h
  · have:=vH hsl4 hsl3 hst3 h;omega
  exact h
 refine Lq (α:=U32) (xs:=sm4) (ys:=[(⟨0⟩:U32)]) 40 rfl T.sl87 T.el166 rfl rfl (oG qY) qX (nN 0 rfl) rI (by simp only [bH,cE];omega) (by simp only [bH,cE,maxLen];omega) fun b2 c2 j2 ho2=>?_
 have hstart:=Ve hsl4 hsl3 hst3 qX huv
 have huA:qZ (sm4++[(⟨0⟩:U32)])=qZ sm4:=by rw [sI,yA];show _+_*0=_;omega
 have dU:Lims (sm4++[(⟨0⟩:U32)]):=hsl4.append (Lims.one rI)
 have lU:(sm4++[(⟨0⟩:U32)]).length=sm4.length+1:=by rw [aQ];rfl
 change qZ ((sm4++[(⟨0⟩:U32)]).drop _)<_ at hstart
 generalize sm4++[(⟨0⟩:U32)]=uL at *
 refine aL 16 [] ?_
 refine jT (α:=U32) 41 rfl T.sl87 T.el166 rfl rfl qX qX fun b3=>?_
 refine bP 15 [] ?_
 obtain ⟨N,hN⟩:∃ N,N=uL.length - sm3.length:=⟨_,rfl⟩
 have hM:((uL.length:Int) - (sm3.length:Int)).toNat=N:=qX
 rw [hM]
 have hNs:sm4.length+1 - sm3.length=N:=qX
 rw [hNs] at hstart
 have hown:∀ r:List U32,r.length=N→OwnA (some ⟨b3,0,none⟩) N r []:=fun r hr=>.inr ⟨b3,rfl,by rw [hr];rfl,by omega,by simp only [maxLen];omega⟩
 have hc2:uL.length≤c2:=ho2.le
 have hownU:∀ r:List U32,r.length=uL.length→OwnA (some ⟨b2,0,none⟩) c2 r j2:=fun r hr=>by
  rcases ho2 with ⟨h,_⟩ | ⟨b',e,h5,h6,h7⟩
  · cases h
  exact .inr ⟨b',e,by rw [hr];exact h5,by rw [hr];exact h6,h7⟩
 refine kR 16 rfl (show _=Value.slice (some ⟨b3,0,none⟩) (List.replicate N (default:U32)).length N by rw [aH]) ?_
 refine kR 17 rfl (show _=Value.int .i64 ((N:Int) - 1) by congr 1;omega) ?_
 refine iE (ι:=Nat×List U32×List U32) (fun (k,q,R)=>([(17,.int .i64 ((k:Int) - 1)),(16,.slice (some ⟨b3,0,none⟩) q.length N),(13,.slice (some ⟨b2,0,none⟩) R.length c2),(15,.int .i64 (sm3.length:Int)),(11,.slice sa3 (List.length sm3) (List.length sm3)),(10,.int .i64 (↑sh:Int)),(6,.int .i64 0),(5,.slice none 0 0),(4,.slice none 0 0)],[(41,some b3,rP 166 q []),(40,some b2,rP 166 R j2),(0,some b1,rP (α:=Go.Sl.U32) 166 ([Go.Sl.U32.mk 0]) ([]))])) (fun (k,q,R)=>k≤N∧q.length=N∧Lims q∧R.length=uL.length∧Lims R∧qZ sm4=qZ q*qZ sm3+qZ R∧qZ (R.drop k)<qZ sm3∧∀ j,j<k→lg q j=0) (fun (k,q,R)=>k) ((N,List.replicate N (default:U32),uL)) (⟨aE _,aH,lS N,rfl,dU,by rw [show qZ (List.replicate N (default:U32))=0 from vY N,lB,mV,huA],hstart,fun j _=>Ak N j⟩) fun ⟨k,q,R⟩=>fun hk=>?_
 obtain ⟨hk1,hqN,hdq,hRn,hdR,hval,hRlt,hqz⟩:=hk
 have hoq:=hown q hqN
 have hoR:=hownU R hRn
 rcases iO k with rfl | hkp
 · rw [jN] at hRlt
   refine aM 17 [0] ?_
   refine fT 41 rfl hoq (fun G8 hle8 hAq=>fT 40 rfl hoR (fun G9 hle9 hAR=>?_))
   replace hAq:=hAq.up hle9
   refine cX 42 rfl (OO _ _ _ _ sh qY qY qX qX qX) fun v5 G5 Ho5 hle5 hp=>?_
   obtain ⟨sr5,rfl,⟨sa5,sm5,rfl,hsa5,hsl5,hst5,hsv5,hsn5⟩,rfl⟩:=hp
   replace hAR:=hAR.up hle5
   replace hAq:=hAq.up hle5
   refine aL 10 [] ?_
   refine cX 42 rfl (Dm _ _ _ _ qY qX sW) fun v6 G6 Ho6 hle6 hp=>?_
   obtain ⟨ta6,tm6,rfl,hta6,hte6,htr6,htl6,rfl,rfl⟩:=hp
   refine bA 7 [] ?_
   refine Ar.e3 ?_
   have hRn0:=rR hdR
   rw [hsv3,hsv4,hV] at hval
   rw [hsv3,hV] at hRlt
   obtain ⟨hd1,hd2,_⟩:=EF hP hval hRn0 hRlt
   exact ⟨_,_,rfl,mE hta6 hte6 htr6 hdq hd2 qX,yE ⟨sa5,sm5,rfl,hsa5,hsl5,hst5,by rw [hsv5,hd1],aE _⟩ db (dM _ hB),rfl⟩
 obtain ⟨i,rfl⟩:∃ i,k=i+1:=⟨k - 1,by omega⟩
 have ei:(((i+1:Nat):Int) - 1).toNat=i:=qX
 refine aM 21 [1] ?_
 refine aP (Xr T.sl87 rfl rfl rfl qX qX qX) ?_
 refine aC 1 [] ?_
 have hroom:=Zc (n:=m+2) hdR hsl3 (show i<R.length by omega) hvl qX hRlt
 obtain ⟨p,hp⟩:∃ p,p=R.take i:=⟨_,rfl⟩
 obtain ⟨ww,hw⟩:∃ ww,ww=(R.drop i).take (m+3):=⟨_,rfl⟩
 obtain ⟨z,hz⟩:∃ z,z=R.drop (i+(m+3)):=⟨_,rfl⟩
 have hsplit:R=p++(ww++z):=by rw [hp,hw,hz];exact Zb R i (m+3)
 have lp:p.length=i:=by rw [hp,bJ];omega
 have lw:ww.length=m+3:=by rw [hw,bJ,cU];omega
 have dw:Lims ww:=by rw [hw];exact (vS hdR i).take _
 obtain ⟨hr1,hr2⟩:=hroom
 rw [show m+2+1=m+3 by omega] at hr1 hr2
 rw [←hw] at hr1
 rw [←hz] at hr2
 refine kA 93 rfl (show _=Value.slice (some ⟨b2,p.length,none⟩) ww.length (c2 - i) by
  rw [ei,lp,lw]
  show Value.slice (if c2=i then (some ⟨b2,0,none⟩:Option Addr) else (some ⟨b2,0,none⟩:Option Addr).map (·.add (i*1))) _ _=_
  rw [aF (by omega),dP,add_lit,oW,bO]
  congr 1
  omega) ?_
 refine mZ 40 (rP 166 (p++(ww++z)) j2) rfl (by rw [←hsplit]) ?_
 refine cX 40 rfl (ON _ b2 p ww z j2 _ _ _ sm3 m qY dw hsl3 qX lw hvl hvt hr1) fun r9 G9 Ho9 hle9 hp9=>?_
 obtain ⟨w9,g9,rfl,rfl,rfl,hg1,hg2,hwl,hwd,hwv,hwlt⟩:=hp9
 refine jE (α:=U32) T.sl87 ?_
 refine fS (z:=_) 41 T.size166 rfl rfl rfl qY qX rfl fun ho1=>?_
 refine bA 8 [] ?_
 have lz:z.length=R.length - (i+(m+3)):=by rw [hz,cU]
 have dz:Lims z:=by rw [hz];exact vS hdR _
 have dp:Lims p:=by rw [hp];exact hdR.take _
 have hwin:=DZ p ww w9 z qX
 rw [←hsplit,lp,hwv,show qZ ww - g9*qZ sm3 - qZ ww=-(g9*qZ sm3) by omega] at hwin
 have lR:(p++(w9++z)).length=uL.length:=by rw [aQ,aQ];omega
 refine cS 17 rfl (show _=Value.int .i64 ((i:Int) - 1) by congr 1;omega) ?_
 refine gT 41 (rP 166 (q.set i (⟨g9⟩:U32)) []) rfl (by rw [ei]) ?_
 refine cS 16 rfl (show _=Value.slice (some ⟨b3,0,none⟩) (q.set i (⟨g9⟩:U32)).length N by rw [aI]) ?_
 refine cS 13 rfl (show _=Value.slice (some ⟨b2,0,none⟩) (p++(w9++z)).length c2 by rw [lR,hRn]) ?_
 refine dX ((i,q.set i (⟨g9⟩:U32),p++(w9++z))) ?_ ?_
 · refine ⟨by omega,by rw [aI];exact hqN,rS hdq _ ⟨hg1,hg2⟩,lR,dp.append (hwd.append dz),Yt (q:=0) qX (hqz i qX) hval hwin,?_,fun j hj=>by rw [uU qX];exact hqz j qX⟩
   rw [dF qX,eC qX,fD,sI,hr2,dJ,gL]
   exact hwlt
 show i<i+1
 omega
end
theorem IsBig.make {neg:Bool} {m:List U32} (hd:Lims m) (ht:Top m):IsBig (neg && decide (0<m.length)) m (if neg=true then -qZ m else qZ m):=by
 refine ⟨hd,ht,fun e=>by rw [e];simp,?_⟩
 by_cases h:0<m.length
 · simp [h]
 have e:m=[]:=cA qX
 rw [e];simp [rW]
theorem Big.make {G:Imm} {b:Option Addr} {c:Nat} {m:List U32} (neg:Bool) (hA:Arr G b m) (hd:Lims m) (ht:Top m) (hc:m.length≤c) {z:Int} (hz:z=if neg=true then -qZ m else qZ m):Big G ⟨neg && decide (0<m.length),b,m.length,c⟩ z:=
 ⟨m,rfl,hc,hA,hz▸IsBig.make hd ht⟩
abbrev lG:=@Big.make
theorem Big.len {G:Imm} {x:IV} {z:Int} (h:Big G x z) {m:Nat} (hz:(z.natAbs:Int)<pb m):x.n≤m:=by
 obtain ⟨l,h1,_,_,h4⟩:=h
 rw [←h1];exact h4.len hz
abbrev gM:=@Big.len
theorem Big.out {G:Imm} {x:IV} {z z':Int} (h:Big G x z) (e:z=z'):Big G x z':=e▸h
def Ny (z:Int):Int:=if z=0 then 0 else if z<0 then -1 else 1
section
attribute [local irreducible] qZ pb sG rM
theorem Dw (G:Imm) (neg:Bool) (a:Option Addr) (n c:Nat) (hn:n≤1099511627776) :
 Does Tryz.prog 96 [.bool neg,.slice a n c] G [] (fun v G' Ho=>v=.agg #[.bool (neg && decide (0<n)),.slice a n c]∧G'=G∧Ho=[]):=by
 refine D0 Tryz.func96 Tryz.ntmps96 fun w=>?_
 have e:((0:Int)<(n:Int))=(0<n):=by rw [eq_iff_iff];omega
 cases neg
 · refine aM 2 [] ?_
   refine aW 0 rfl T.zero89 fun b1=>?_
   refine aL 11 [] ?_
   refine aP (fI (cs:=[_,_]) T.st89 rfl rfl rfl) ?_
   refine bA 4 [0] ?_
   refine eH (.inr rfl) (Ho:=Hp.only _ []) rfl (.agg 0 rfl rfl T.agg89) (bN _ _) ?_
   exact ⟨by simp only [Bool.false_and],rfl,rfl⟩
 refine aM 2 [] ?_
 refine aW 0 rfl T.zero89 fun b1=>?_
 refine aL 14 [] ?_
 refine aP (fI (cs:=[_,_]) T.st89 rfl rfl rfl) ?_
 refine bA 4 [0] ?_
 refine eH (.inr rfl) (Ho:=Hp.only _ []) rfl (.agg 0 rfl rfl T.agg89) (bN _ _) ?_
 exact ⟨by simp only [e,nY],rfl,rfl⟩
theorem OR (G:Imm) (neg:Bool) (a:Option Addr) (c:Nat) (l:List U32) (ha:Arr G a l) (hd:Lims l) (hb:l.length≤1073741824) (hc:l.length≤c) :
 Does Tryz.prog 100 [.bool neg,.slice a l.length c] G [] (fun v G' Ho=>∃ r:IV,v=.agg (Cells.enc r).toArray∧Big G' r (if neg=true then -qZ l else qZ l)∧Ho=[]):=by
 refine D0 Tryz.func100 Tryz.ntmps100 fun w=>?_
 refine aM 2 [] ?_
 refine aW 0 rfl T.zero89 fun b1=>?_
 refine aL 6 [] ?_
 refine cX 1 rfl (HJ _ _ _ _ qY Ms Ms) fun v1 G1 Ho1 hle1 hp=>?_
 obtain ⟨na1,nm1,rfl,hna1,hne1,hnt1,hnl1,rfl⟩:=hp
 replace ha:=ha.up hle1
 refine bS rfl (Dw _ _ _ _ _ qX) ?_
 refine bA 4 [0] ?_
 refine eH (.inr rfl) (Ho:=Hp.only _ []) rfl (.agg 0 rfl rfl T.agg89) (bN _ _) ?_
 refine ⟨⟨neg && decide (0<nm1.length),na1,nm1.length,nm1.length⟩,rfl,lG neg hna1 (tH hne1 hd) (yD hne1 hnt1) (aE _) (by rw [tO hne1 hnt1]),rfl⟩
theorem c48 (G:Imm) (neg:Bool) (a:Option Addr) (c:Nat) (l:List U32) (z:Int) (h:IsBig neg l z) (h1:l.length≤1073741824) :
 Does Tryz.prog 48 [.agg #[.bool neg,.slice a l.length c]] G [] (fun v G' Ho=>v=.int .i64 (Ny z)∧G'=G∧Ho=[]):=by
 have hz:=h.zero_iff
 have hn:=h.neg_iff
 refine D0 Tryz.func48 Tryz.ntmps48 fun w=>?_
 by_cases h0:l.length=0
 · have hz0:=hz.1 h0
   refine aM 2 [] ?_
   refine dY 0 fun b1=>?_
   refine bA 23 [0,1] ?_
   refine cI ?_
   exact ⟨by rw [hz0];rfl,rfl,rfl⟩
 have hz0:z≠0:=fun e=>h0 (hz.2 e)
 by_cases hs:z<0
 · rw [hn,cR hs]
   refine aM 2 [] ?_
   refine dY 0 fun b1=>?_
   refine bA 31 [0,0,0,1] ?_
   refine cI ?_
   exact ⟨by unfold Ny;rw [aF hz0,aT hs],rfl,rfl⟩
 rw [hn,bR hs]
 refine aM 2 [] ?_
 refine dY 0 fun b1=>?_
 refine bA 32 [0,0,0,0] ?_
 refine cI ?_
 exact ⟨by unfold Ny;rw [aF hz0,aF hs],rfl,rfl⟩
theorem c55 (G:Imm) (x:IV) (z:Int) (hx:Big G x z) (h1:x.n≤1073741824) :
 Does Tryz.prog 55 [.agg (Cells.enc x).toArray] G [] (fun v G' Ho=>∃ r:IV,v=.agg (Cells.enc r).toArray∧Big G' r (-z)∧G'=G∧Ho=[]):=by
 obtain ⟨neg,a,n,c⟩:=x
 obtain ⟨l,hl,hlc,hA,hI⟩:=hx
 simp only at hl hlc hA hI h1
 subst hl
 show Does Tryz.prog 55 [.agg #[.bool neg,.slice a l.length c]] G [] _
 refine D0 Tryz.func55 Tryz.ntmps55 fun w=>?_
 refine aM 2 [] ?_
 refine dY 0 fun b1=>?_
 refine aW 1 rfl T.zero89 fun b2=>?_
 refine aL 9 [0,0] ?_
 refine bS rfl (Dw _ _ _ _ _ qX) ?_
 refine bA 4 [1] ?_
 refine eH (.inr rfl) (Ho:=Hp.only _ []) rfl (.agg 1 rfl rfl T.agg89) (bN _ _) ?_
 refine ⟨⟨!neg && decide (0<l.length),a,l.length,c⟩,rfl,lG (!neg) hA hI.digs hI.top hlc ?_,rfl,rfl⟩
 rw [hI.val];cases neg <;> simp
theorem c58 (G:Imm) (x:IV) (z:Int) (hx:Big G x z) (h1:x.n≤1073741824) :
 Does Tryz.prog 58 [.agg (Cells.enc x).toArray] G [] (fun v G' Ho=>∃ r:IV,v=.agg (Cells.enc r).toArray∧Big G' r (z.natAbs:Int)∧G'=G∧Ho=[]):=by
 obtain ⟨neg,a,n,c⟩:=x
 obtain ⟨l,hl,hlc,hA,hI⟩:=hx
 simp only at hl hlc hA hI h1
 subst hl
 show Does Tryz.prog 58 [.agg #[.bool neg,.slice a l.length c]] G [] _
 refine D0 Tryz.func58 Tryz.ntmps58 fun w=>?_
 refine aM 2 [] ?_
 refine dY 0 fun b1=>?_
 refine aW 1 rfl T.zero89 fun b2=>?_
 refine aL 6 [0] ?_
 refine bS rfl (Dw _ _ _ _ _ qX) ?_
 refine bA 4 [1] ?_
 refine eH (.inr rfl) (Ho:=Hp.only _ []) rfl (.agg 1 rfl rfl T.agg89) (bN _ _) ?_
 refine ⟨⟨false && decide (0<l.length),a,l.length,c⟩,rfl,lG false hA hI.digs hI.top hlc ?_,rfl,rfl⟩
 rw [aF (by decide),hI.abs]
theorem Nz (G:Imm) (x:IV) (z:Int) (hx:Big G x z) (h1:x.n≤1073741824) :
 Does Tryz.prog 48 [.agg (Cells.enc x).toArray] G [] (fun v G' Ho=>v=.int .i64 (Ny z)∧G'=G∧Ho=[]):=by
 obtain ⟨n1,a,k1,ca⟩:=x
 obtain ⟨la,hl,hlc,hA,hI⟩:=hx
 simp only at hl hlc hA hI h1
 subst hl
 exact c48 G n1 a ca la z hI h1
theorem c57 (G:Imm) (x y:IV) (zx zy:Int) (hx:Big G x zx) (hy:Big G y zy) (h1:x.n≤1073741824) (h2:y.n≤1073741824) :
 Does Tryz.prog 57 [.agg (Cells.enc x).toArray,.agg (Cells.enc y).toArray] G [] (fun v G' Ho=>v=.int .i64 (sG zx zy)∧G'=G∧Ho=[]):=by
 obtain ⟨n1,a,k1,ca⟩:=x
 obtain ⟨n2,b,k2,cb⟩:=y
 obtain ⟨la,hl,hlc,hA,hI⟩:=hx
 obtain ⟨lb,hl',hlc',hA',hI'⟩:=hy
 simp only at hl hlc hA hI hl' hlc' hA' hI' h1 h2
 subst hl hl'
 have da:=hI.digs
 have db:=hI'.digs
 have ta:=hI.top
 have tb:=hI'.top
 have va:=hI.abs
 have vb:=hI'.abs
 have na:=hI.neg_iff
 have nb:=hI'.neg_iff
 have cs:∀ u v:Int,u<v→sG u v=-1:=fun u v h=>Aj h
 have cg:∀ u v:Int,v<u→sG u v=1:=fun u v h=>Dv h
 show Does Tryz.prog 57 [.agg #[.bool n1,.slice a la.length ca],.agg #[.bool n2,.slice b lb.length cb]] G [] _
 refine D0 Tryz.func57 Tryz.ntmps57 fun w=>?_
 by_cases sx:zx<0 <;> by_cases sy:zy<0
 · rw [na,nb,cR sx,cR sy]
   refine aM 2 [] ?_
   refine dY 0 fun b1=>?_
   refine dY 1 fun b2=>?_
   refine aL 25 [0,1,1,1,0] ?_
   refine bS rfl (GH _ _ _ _ _ _ _ qY qY qY qY qX qX qX qX) ?_
   refine bA 6 [] ?_
   refine cI ?_
   exact ⟨by rw [Fp (x:=qZ lb) (y:=qZ la) (u:=zx) (v:=zy) qX qX],rfl,rfl⟩
 · rw [na,nb,cR sx,bR sy]
   refine aM 2 [] ?_
   refine dY 0 fun b1=>?_
   refine dY 1 fun b2=>?_
   refine bA 35 [0,1,0,0,1] ?_
   refine cI ?_
   exact ⟨by rw [cs zx zy qX],rfl,rfl⟩
 · rw [na,nb,bR sx,cR sy]
   refine aM 2 [] ?_
   refine dY 0 fun b1=>?_
   refine dY 1 fun b2=>?_
   refine bA 41 [0,0,0,0,1,1] ?_
   refine cI ?_
   exact ⟨by rw [cg zx zy qX],rfl,rfl⟩
 rw [na,nb,bR sx,bR sy]
 refine aM 2 [] ?_
 refine dY 0 fun b1=>?_
 refine dY 1 fun b2=>?_
 refine aL 42 [0,0,0,0,1,0,0,1] ?_
 refine bS rfl (GH _ _ _ _ _ _ _ qY qY qY qY qX qX qX qX) ?_
 refine bA 4 [] ?_
 refine cI ?_
 exact ⟨by rw [Fp (x:=qZ la) (y:=qZ lb) (u:=zx) (v:=zy) qX qX],rfl,rfl⟩
theorem OS (G:Imm) (x y:IV) (zx zy:Int) (hx:Big G x zx) (hy:Big G y zy) (h1:x.n≤536870912) (h2:y.n≤536870912) :
 Does Tryz.prog 65 [.agg (Cells.enc x).toArray,.agg (Cells.enc y).toArray] G [] (fun v G' Ho=>∃ r:IV,v=.agg (Cells.enc r).toArray∧Big G' r (zx*zy)∧Ho=[]):=by
 obtain ⟨n1,a,k1,ca⟩:=x
 obtain ⟨n2,b,k2,cb⟩:=y
 obtain ⟨la,hl,hlc,hA,hI⟩:=hx
 obtain ⟨lb,hl',hlc',hA',hI'⟩:=hy
 simp only at hl hlc hA hI hl' hlc' hA' hI' h1 h2
 subst hl hl'
 have da:=hI.digs
 have db:=hI'.digs
 have ta:=hI.top
 have tb:=hI'.top
 show Does Tryz.prog 65 [.agg #[.bool n1,.slice a la.length ca],.agg #[.bool n2,.slice b lb.length cb]] G [] _
 refine D0 Tryz.func65 Tryz.ntmps65 fun w=>?_
 refine aM 2 [] ?_
 refine dY 0 fun b1=>?_
 refine dY 1 fun b2=>?_
 refine aW 2 rfl T.zero89 fun b3=>?_
 refine bP 3 [] ?_
 refine eZ [0,1,2] [(2,11)] T.mixed [[0],[1,0],[2],[3,1]] ?_
 refine gQ 4 [] rfl (Kv T.u4 rfl rfl) ?_
 refine fE [[5],[6,0],[7],[8,1]] ?_
 refine gC 9 ?_
 refine cX 3 rfl (OK _ _ _ _ _ _ _ qY qY qY qY qX qX) fun v1 G1 Ho1 hle1 hp=>?_
 obtain ⟨⟨ra1,rm1,rfl,hra1,hrl1,hrt1,hrv1,hrn1⟩,rfl⟩:=hp
 replace hA:=hA.up hle1
 replace hA':=hA'.up hle1
 refine cT 10 ?_
 refine bS rfl (Dw _ _ _ _ _ qX) ?_
 refine cT 11 ?_
 refine aC 1 [2] ?_
 refine jC ?_
 refine iN 2 [] ?_
 refine eH (.inr rfl) (Ho:=Hp.only _ []) rfl (.agg 2 rfl rfl T.agg89) (bN _ _) ?_
 refine ⟨⟨decide (n1≠n2) && decide (0<rm1.length),ra1,rm1.length,rm1.length⟩,rfl,lG (decide (n1≠n2)) hra1 hrl1 hrt1 (aE _) ?_,rfl⟩
 rw [hrv1,hI.val,hI'.val]
 cases n1 <;> cases n2 <;> simp [pC,Int.mul_neg]
end
end Go.Proofs.YtngphgeghfdjbaaGreatDoor
