/- sT of the proof (part 3): what the rows' text needs of the texts that lead to it. -/
import Derived.Test.YtngphgeghfdjbaaGreatDoorMAb
set_option linter.unusedVariables false
set_option linter.unusedSimpArgs false
set_option linter.unusedSectionVars false
set_option maxHeartbeats 4000000
set_option maxRecDepth 100000
namespace Go.Sl
open Go
theorem Nv (P s:Int):P*(s % 4294967296)+4294967296*P*(s / 4294967296)=P*s:=by
 have h:=fW s 4294967296
 have e:4294967296*P*(s / 4294967296)=P*(4294967296*(s / 4294967296)):=by rw [cI 4294967296 P,bM]
 rw [e,←bI,h]
def lg (l:List U32) (i:Nat):Int:=(l[((i:Nat):Int).toNat]?.getD default).v
theorem xP {l:List U32} (h:Lims l) {i:Nat} (hi:i<l.length):0≤lg l i∧lg l i<4294967296:=h.at rG
theorem zJ {l:List U32} {i:Nat} (hi:l.length≤i):lg l i=0:=by
 unfold lg;rw [aF,cM hi];rfl
theorem tN {l:List U32} (h:Lims l) (i:Nat):0≤lg l i∧lg l i<4294967296:=by
 rcases aJ i l.length with h1 | h1
 · exact xP h h1
 rw [zJ h1];decide
theorem Aw {l:List U32} {i:Nat} (h:i<l.length) (d:Int):lg (l.set i ⟨d⟩) i=d:=by
 unfold lg
 rw [aF,aC (by rw [aG];exact h),List.getElem_set_self];rfl
theorem vR {l:List U32} {i j:Nat} (h:i≠j) (d:U32):lg (l.set i d) j=lg l j:=by
 unfold lg
 rw [aF,List.getElem?_set_ne h]
theorem sL (l:List U32) (i:Nat):rI (l.take (i+1))=rI (l.take i)+pb i*lg l i:=by
 rcases aJ i l.length with h | h
 · exact zI h
 rw [rQ h,rQ rG,zJ h,cC,dB]
theorem uI {l:List U32} {i:Nat} (h:i<l.length):rI (l.drop i)=lg l i+4294967296*rI (l.drop (i+1)):=by
 rw [gL h,sX]
 unfold lg
 rw [aF,aC h];rfl
theorem xD (l:List U32) {m:Nat} (h:m≤l.length):rI l=rI (l.take m)+pb m*rI (l.drop m):=by
 have h1:rI l=rI (l.take m++l.drop m):=by rw [cU]
 rw [h1,sW,bC,cS h]
theorem xX:∀ (l:List U32) (k:Nat) (d:U32),k<l.length→rI (l.set k d)=rI l+pb k*(d.v - lg l k)
 | [],k,d,h=>by simp at h
 | x :: l,0,d,_=>by
   rw [qD,sX,sX,Gl]
   show _=_+1*(d.v - x.v)
   omega
 | x :: l,k+1,d,h=>by
   have ih:=xX l k d (by simpa using h)
   have e:lg (x :: l) (k+1)=lg l k:=by unfold lg;rw [aF,aF,gE]
   rw [qE,sX,sX,ih,uV,e,bI,←bM]
   omega
theorem sE {l:List U32} (h:Lims l) (k:Nat) {s:Int} (hs:0≤s∧s<4294967296):Lims (l.set k ⟨s⟩):=fun d hd=>by
 rcases iQ hd with h1 | h1
 · exact h d h1
 subst h1;exact hs
theorem An (s:Int):0≤s % 4294967296∧s % 4294967296<4294967296:=⟨hJ _ rW,dX _ rW⟩
def Trim (l:List U32) (n:Nat):Prop:=n≤l.length∧(∀ j,n≤j→j<l.length→(l[j]?.getD default).v=0)∧(n=0∨(l[n - 1]?.getD default).v≠0)
theorem Trim.val {l:List U32} {n:Nat} (h:Trim l n):rI (l.take n)=rI l:=Yt h.2.1
theorem Trim.top {l:List U32} {n:Nat} (h:Trim l n):Top (l.take n):=by
 obtain ⟨h1,h2,h3⟩:=h
 rcases h3 with h3 | h3
 · subst h3;exact .inl rfl
 by_cases h0:n=0
 · subst h0;exact .inl rfl
 refine .inr ?_
 rw [bC,cS h1,gP,aR (by omega)]
 exact h3
theorem Ii {α:Type} [Cells α] {G:Imm} {a:Option Addr} {c sz:Nat} {l:List α} (h:Arr G a l) (n:Nat):Arr G (subA a c 0 sz) (l.take n):=by
 refine ⟨rT _,?_⟩
 rcases h.2 with h0 | ⟨b,o,rfl,hr⟩
 · left;rw [bC];omega
 refine .inr ⟨b,o,?_,fun i v hi=>hr i v ?_⟩
 · unfold subA
   split
   · rfl
   simp [Addr.add]
 have e:rX l=rX (l.take n)++rX (l.drop n):=by rw [←tV,cU]
 rw [e,aZ (aV.1 hi).1];exact hi
theorem Ci {la lb r:List U32} {i:Nat} {cy s:Int} (hi:i<r.length) (hv:rI (la.take i)+rI (lb.take i)=rI (r.take i)+pb i*cy) (hs:s=cy+lg la i+lg lb i) :
 rI (la.take (i+1))+rI (lb.take (i+1))=rI ((r.set i ⟨s % 4294967296⟩).take (i+1))+pb (i+1)*(s / 4294967296):=by
 rw [sL,sL,sL (r.set i _),Aw hi,jB (aH i),uV]
 have h:=Nv (pb i) s
 rw [hs,bI,bI] at h
 rw [←hs] at h
 omega
theorem Cj {la lb r:List U32} {i:Nat} {cy cy' s:Int} (hi:i<r.length) (hv:rI (la.take i) - rI (lb.take i)=rI (r.take i) - pb i*cy) (hs:s=lg la i - lg lb i - cy+4294967296*cy') :
 rI (la.take (i+1)) - rI (lb.take (i+1))=rI ((r.set i ⟨s⟩).take (i+1)) - pb (i+1)*cy':=by
 rw [sL,sL,sL (r.set i _),Aw hi,jB (aH i),uV]
 have h:pb i*s=pb i*lg la i - pb i*lg lb i - pb i*cy+4294967296*pb i*cy':=by
  rw [hs,bI,iF,iF,←bM,cI (pb i) 4294967296]
 omega
theorem II {la lb r:List U32} {n:Nat} {cy:Int} (hn:n=la.length) (hb:lb.length≤la.length) (hle:rI lb≤rI la) (hri:r.length=n) (hd:Lims r) (hc:0≤cy∧cy≤1) (hv:rI (la.take n) - rI (lb.take n)=rI (r.take n) - pb n*cy):rI r=rI la - rI lb:=by
 rw [rQ rG,rQ rG,rQ rG] at hv
 have h:=tY hd
 rw [hri] at h
 have hcy:cy=0:=by
  rcases (show cy=0∨cy=1 by omega) with h1 | h1
  · exact h1
  rw [h1,fL] at hv;omega
 rw [hcy,cC] at hv
 omega
theorem Yw {r lb:List U32} {i j:Nat} {c s x A:Int} (hk:i+j<r.length) (hv:rI r+pb (i+j)*c=A+pb i*(x*rI (lb.take j))) (hs:s=c+(x*lg lb j+lg r (i+j))) :
 rI (r.set (i+j) ⟨s % 4294967296⟩)+pb (i+(j+1))*(s / 4294967296)=A+pb i*(x*rI (lb.take (j+1))):=by
 rw [xX r (i+j) ⟨s % 4294967296⟩ hk,sL,←jS,uV]
 have h1:=Nv (pb (i+j)) s
 have h2:pb (i+j)*s=pb (i+j)*c+(pb (i+j)*(x*lg lb j)+pb (i+j)*lg r (i+j)):=by rw [hs,bI,bI]
 have h3:pb i*(x*(rI (lb.take j)+pb j*lg lb j))=pb i*(x*rI (lb.take j))+pb (i+j)*(x*lg lb j):=by
  rw [bI,bI,Te]
  congr 1
  rw [bM,←bM x,cI x (pb j),bM]
 have h4:pb (i+j)*(s % 4294967296 - lg r (i+j))=pb (i+j)*(s % 4294967296) - pb (i+j)*lg r (i+j):=iF _ _ _
 show rI r+pb (i+j)*(s % 4294967296 - lg r (i+j))+4294967296*pb (i+j)*(s / 4294967296)=_
 rw [h3,h4]
 omega
theorem CJ {la lb r:List U32} {i:Nat} {c:Int} (hk:i+lb.length<r.length) (hz:lg r (i+lb.length)=0) (hv:rI r+pb (i+lb.length)*c=rI (la.take i)*rI lb+pb i*(lg la i*rI (lb.take lb.length))) :
 rI (r.set (i+lb.length) ⟨c⟩)=rI (la.take (i+1))*rI lb:=by
 rw [xX r _ _ hk,hz,rQ (aH _)] at *
 show rI r+pb (i+lb.length)*(c - 0)=_
 rw [mG,hv,sL,iX,bM]
theorem yN {x y:Int} (hx:0≤x∧x<4294967296) (hy:0≤y∧y<4294967296):0≤x*y∧x*y≤18446744065119617025:=by
 refine ⟨jF hx.1 hy.1,?_⟩
 have h1:x*y≤4294967295*y:=cX rG hy.1
 omega
theorem Qd {la q:List U32} {i:Nat} {r B:Int} (hi:i<la.length) (hq:i<q.length) (hv:rI (la.drop (i+1))=rI (q.drop (i+1))*B+r) :
 rI (la.drop i)=rI ((q.set i ⟨(r*4294967296+lg la i) / B⟩).drop i)*B+(r*4294967296+lg la i) % B:=by
 rw [uI hi,uI (l:=q.set i _) (by rw [aG];exact hq),Aw hq,nH rG,hv]
 have h:=fW (r*4294967296+lg la i) B
 rw [iX,cI ((r*4294967296+lg la i) / B) B,bM 4294967296,bI]
 omega
theorem Yx {r a B:Int} (hr:0≤r∧r<B) (ha:0≤a∧a<4294967296):0≤(r*4294967296+a) / B∧(r*4294967296+a) / B<4294967296:=by
 refine ⟨lD rG rG,jU rG ?_⟩
 have h1:=cX (show r+1≤B by omega) (show (0:Int)≤4294967296 by decide)
 rw [cI 4294967296 B]
 omega
theorem CK {lb:List U32} (h:lb.length=1):rI lb=lg lb 0:=by
 match lb,h with
 | [d],_=>rw [zH];rfl
theorem CL {x y:U32} (h:x.v=y.v):x=y:=by cases x;cases y;simp only at h;rw [h]
theorem Ij {la lb:List U32} {k:Nat} (hn:la.length=lb.length) (h:∀ j,k≤j→j<la.length→lg la j=lg lb j):la.drop k=lb.drop k:=by
 refine fG fun i=>?_
 rw [eR,eR]
 rcases aJ (k+i) la.length with h1 | h1
 · have h2:=h (k+i) rG h1
   unfold lg at h2
   rw [aF] at h2
   rw [aC h1,aC rG] at h2 ⊢
   exact congrArg some (CL h2)
 rw [cM h1,cM rG]
theorem Qe {la lb:List U32} {k:Nat} (hn:la.length=lb.length) (hk:k<la.length) (da:Lims la) (db:Lims lb) (h:∀ j,k+1≤j→j<la.length→lg la j=lg lb j) (hlt:lg la k<lg lb k):rI la<rI lb:=by
 have e:=Ij hn h
 have h1:=xD la (show k+1≤la.length by omega)
 have h2:=xD lb (show k+1≤lb.length by omega)
 rw [e] at h1
 rw [sL] at h1 h2
 have h3:=tY (da.take k)
 rw [bC,cS rG] at h3
 have h4:=sD (db.take k)
 have h5:=aW (show lg la k+1≤lg lb k by omega) (bK (vG k))
 rw [bI,fL] at h5
 omega
theorem CM {p Ul U3 Vl V2 g:Int} (hp:0<p) (hUl:Ul<p) (hVl:0≤Vl) (hg:0≤g) (h:U3<g*V2):Ul+p*U3<g*(Vl+p*V2):=by
 have h1:=aW (show U3+1≤g*V2 by omega) (bK hp)
 have h2:=jF hg hVl
 rw [bI,fL] at h1
 rw [bI,dK g p]
 omega
theorem IJ {p Ul U3 Vl V2 g:Int} (hp:0<p) (hUl:0≤Ul) (hVl:0≤Vl∧Vl<p) (hg:0≤g∧g<4294967296) (hV2:4294967296≤V2) (h:g*V2≤U3):(g - 1)*(Vl+p*V2)≤Ul+p*U3:=by
 have h1:=aW h (bK hp)
 have h2:=aW (bK hVl.2) hg.1
 have h3:=cX (bK hg.2) (bK hp)
 have h4:=aW hV2 (bK hp)
 rw [oF,fB,bI,dK g p]
 rw [cI p 4294967296] at h4
 omega
theorem CN {g v1 v2 high rest u2:Int} (h:g*v1+rest=high):g*(v2+4294967296*v1) - (u2+4294967296*high)=g*v2 - (rest*4294967296+u2):=by
 rw [bI,dK g 4294967296,←h]
 omega
theorem CO {g v1 high rest:Int} (h:g*v1+rest=high) (hr:4294967296≤rest) (hv:0<v1) (hh:high<v1*4294967296+4294967296):g<4294967296:=by
 rcases Int.lt_or_le g 4294967296 with h1 | h1
 · exact h1
 have h2:=cX h1 (bK hv)
 omega
section
variable {u v:List U32} {m:Nat}
theorem IK (hu:u.length=m+3):rI u=rI (u.take m)+pb m*(lg u m+4294967296*(lg u (m+2)*4294967296+lg u (m+1))):=by
 have h0:=xD u (show m≤u.length by omega)
 rw [uI (l:=u) (i:=m) rG,uI (l:=u) (i:=m+1) rG,uI (l:=u) (i:=m+1+1) rG,eC (show u.length≤m+1+1+1 by omega),sH] at h0
 rw [h0]
 congr 2
 show lg u m+4294967296*(lg u (m+1)+4294967296*(lg u (m+2)+4294967296*0))=_
 omega
theorem CQ (hv:v.length=m+2):rI v=rI (v.take m)+pb m*(lg v m+4294967296*lg v (m+1)):=by
 have h0:=xD v (show m≤v.length by omega)
 rw [uI (l:=v) (i:=m) rG,uI (l:=v) (i:=m+1) rG,eC (show v.length≤m+1+1 by omega),sH] at h0
 rw [h0]
 congr 2
 omega
theorem vH {l:List U32} (d:Lims l) (h:m≤l.length):0≤rI (l.take m)∧rI (l.take m)<pb m:=by
 have h1:=tY (d.take m)
 rw [bC,cS h] at h1
 exact ⟨sD (d.take m),h1⟩
variable (hu:u.length=m+3) (hv:v.length=m+2) (du:Lims u) (dv:Lims v)
include hu hv du dv
theorem CR {g rest high:Int} (hh:high=lg u (m+2)*4294967296+lg u (m+1)) (h1:0<lg v (m+1)) (hg:g=high / lg v (m+1)) (hr:rest=high % lg v (m+1)) :
 g*lg v (m+1)+rest=high∧0≤g∧0≤rest∧rest<lg v (m+1)∧rI u<(g+1)*rI v:=by
 have a1:=tN du (m+2)
 have a2:=tN du (m+1)
 have a3:=tN du m
 have a4:=tN dv m
 have hn:0≤high:=rG
 have e1:=fW high (lg v (m+1))
 have e2:=dX high h1
 have e3:=hJ high (show lg v (m+1)≠0 by omega)
 have e4:=lD hn (bK h1)
 rw [←hg,←hr] at e1
 rw [←hr] at e2 e3
 rw [←hg] at e4
 rw [cI] at e1
 refine ⟨by omega,e4,e3,e2,?_⟩
 rw [IK hu,CQ hv,←hh]
 refine CM (vG m) (vH du rG).2 (vH dv rG).1 rG ?_
 have e5:(g+1)*lg v (m+1)=g*lg v (m+1)+lg v (m+1):=by rw [iX,fB]
 have e6:=jF (show 0≤g+1 by omega) a4.1
 rw [bI,dK (g+1) 4294967296,e5]
 omega
theorem LX {g rest high:Int} (hh:high=lg u (m+2)*4294967296+lg u (m+1)) (h:g*lg v (m+1)+rest=high) (hg:0≤g) (hc:rest*4294967296+lg u m<g*lg v m):rI u<g*rI v:=by
 have e:=CN (v2:=lg v m) (u2:=lg u m) h
 rw [IK hu,CQ hv,←hh]
 exact CM (vG m) (vH du rG).2 (vH dv rG).1 hg rG
theorem CS {g rest high:Int} (hh:high=lg u (m+2)*4294967296+lg u (m+1)) (h:g*lg v (m+1)+rest=high) (hg:0≤g∧g<4294967296) (h1:1≤lg v (m+1)) (hc:g*lg v m≤rest*4294967296+lg u m):(g - 1)*rI v≤rI u:=by
 have e:=CN (v2:=lg v m) (u2:=lg u m) h
 have a4:=tN dv m
 rw [IK hu,CQ hv,←hh]
 exact IJ (vG m) (vH du rG).1 (vH dv rG) hg rG rG
end
theorem wS {u v w:List U32} {i:Nat} {t c c' b b' s:Int} (hi:i<w.length) (hv:rI (u.take i) - t*rI (v.take i)=rI (w.take i) - pb i*(b+c)) (hc:c'=c+lg v i*t)
 (hs:s=lg u i - c' % 4294967296 - b+4294967296*b') :
 rI (u.take (i+1)) - t*rI (v.take (i+1))=rI ((w.set i ⟨s⟩).take (i+1)) - pb (i+1)*(b'+c' / 4294967296):=by
 rw [sL,sL,sL (w.set i _),Aw hi,jB (aH i),uV]
 have h1:=Nv (pb i) c'
 have h2:pb i*c'=pb i*c+t*(pb i*lg v i):=by rw [hc,bI,cI (lg v i) t,dK t]
 have h3:pb i*s=pb i*lg u i - pb i*(c' % 4294967296) - pb i*b+4294967296*pb i*b':=by
  rw [hs,bI,iF,iF,←bM,cI (pb i) 4294967296]
 rw [bI] at hv
 rw [bI t,bI (4294967296*pb i)]
 omega
theorem Tj {c x t:Int} (hc:0≤c∧c<4294967296) (hx:0≤x∧x<4294967296) (ht:0≤t∧t<4294967296):0≤c+x*t∧c+x*t<18446744073709551616∧0≤(c+x*t) / 4294967296∧(c+x*t) / 4294967296<4294967296∧0≤x*t∧x*t≤18446744065119617025:=by
 have h:=yN hx ht
 omega
theorem CT {u v w z:List U32} {n:Nat} {g c:Int} (hu:rI w=rI u - g*rI v+pb n) (hlow:(g - 1)*rI v≤rI u) (hup:rI u<g*rI v) (hw:w.length=n) (hz:z.length=n) (hvn:rI v<pb n) (hvl:v.length≤n) (dz:Lims z) (hc:0≤c∧c≤1)
 (hs:rI (w.take n)+rI (v.take n)=rI (z.take n)+pb n*c):rI z=rI u - (g - 1)*rI v:=by
 rw [rQ rG,rQ rG,rQ rG] at hs
 have h1:=sD dz
 have h2:=tY dz
 rw [hz] at h2
 have e:(g - 1)*rI v=g*rI v - rI v:=by rw [oF,fB]
 have hc1:c=1:=by
  rcases (show c=0∨c=1 by omega) with h | h
  · rw [h,cC] at hs;omega
  exact h
 rw [hc1,fL] at hs
 omega
theorem IL (p w w' q:List U32) (h:w'.length=w.length):rI (p++(w'++q))=rI (p++(w++q))+pb p.length*(rI w' - rI w):=by
 rw [sW,sW,sW,sW,h,bI,bI,iF]
 omega
theorem CU {A V q g:Int} {R R':Int} {l:List U32} {k:Nat} (hk:k<l.length) (hz:lg l k=0) (hA:A=rI l*V+R) (hR:R'=R+pb k*(-(g*V))):A=rI (l.set k ⟨g⟩)*V+R':=by
 rw [xX l k _ hk,hz,hA,hR,mG,iX,bM,Int.mul_neg]
 show _=rI l*V+pb k*(g*V)+(R + -(pb k*(g*V)))
 omega
section
variable {P:Program} {ops:Array Oper} {rest:List Oper} {B:Bs} {e:Env} {D:List Deferred} {H:Hp} {G:Imm} {K:Act→World→Prop}
 {ty:TypeId} {pos:String} {after:Array Edge} {d:Nat}
theorem IM {p w q:List U32} {m:Int} (hm:0≤m∧m<w.length):(p++(w++q))[((p.length:Int)+m).toNat]?.getD default=w[m.toNat]?.getD default:=by
 have h1:((p.length:Int)+m).toNat=p.length+m.toNat:=rG
 rw [h1,cH rG,oQ,aZ rG]
theorem IN {p w q:List U32} {m:Int} (hm:0≤m∧m<w.length) (z:U32):(p++(w++q)).set ((p.length:Int)+m).toNat z=p++(w.set m.toNat z++q):=by
 have h1:((p.length:Int)+m).toNat=p.length+m.toNat:=rG
 rw [h1,List.set_append_right _ _ rG,oQ,List.set_append_left _ _ rG]
theorem Vk {k:Nat} {m:Int} (hm:0≤m):k+m.toNat*1=0+((k:Int)+m).toNat*Cells.sz U32+0:=by
 show k+m.toNat*1=0+((k:Int)+m).toNat*1+0
 omega
theorem CW {T:TypeId} {x:Operand} {b:Nat} {E:TypeId} {p w q:List U32} {junk:List Value} {m:Int} (t:Nat) (h1:tZ P T=true) (hx:e.ev x=some (.pointer (some ⟨b,p.length+m.toNat*1,none⟩)))
 (ht:H.get t=some (some b,rV E (p++(w++q)) junk)) (hm:0≤m∧m<w.length):Qy P (.load T x) ty e H G (.int .u32 (w[m.toNat]?.getD default).v):=by
 rw [Vk hm.1] at hx
 refine Ps (m:=(p.length:Int)+m) t 0 h1 hx ht ⟨by omega,by rw [aI,aI];omega⟩ rfl ?_
 rw [IM hm];rfl
abbrev kI:=@CW
theorem IP {T:TypeId} {x y:Operand} {b:Nat} {E:TypeId} {p w q:List U32} {junk:List Value} {m n:Int} (t:Nat) (hs:(P.info? T).map (·.size)=some 1)
 (hx:e.ev x=some (.pointer (some ⟨b,p.length+m.toNat*1,none⟩))) (hy:e.ev y=some (.int .u32 n)) (ht:H.get t=some (some b,rV E (p++(w++q)) junk)) (hm:0≤m∧m<w.length)
 (h:Wl P ops rest B ⟨e,D,(t,some b,rV E (p++(w.set m.toNat ⟨n⟩++q)) junk) :: H,G⟩ K):Wl P ops (⟨none,.store T x y,ty,pos,after,none⟩ :: rest) B ⟨e,D,H,G⟩ K:=by
 rw [Vk hm.1] at hx
 refine Ve (m:=(p.length:Int)+m) (z:=(⟨n⟩:U32)) t hs hx hy rfl ht ⟨by omega,by rw [aI,aI];omega⟩ ?_
 rw [IN hm];exact h
abbrev oW:=@IP
theorem CX {T:TypeId} {x hi mx:Operand} {a:Option Addr} {n c E sz:Nat} {k k':IntKind} {m m':Int} (hT:rS P T E sz) (hx:e.ev x=some (.slice a n c)) (hh:e.ev hi=some (.int k m)) (hh':e.ev mx=some (.int k' m')) (h0:0≤m) (h1:m≤m') (h2:m'≤c) :
 Qy P (.slice T x none (some hi) (some mx)) ty e H G (.slice (subA a m'.toNat 0 sz) m.toNat m'.toNat):=fun ac w _ _ _ _ hk=>by
 have hr:=run_sizeOf (P:=P) w hT.2
 have hu:P.underlying T=some (.slice (P.elem T)):=by simp [Program.elem,hT.1]
 have he:P.elem T=E:=by simp [Program.elem,hT.1]
 have:=run_slice_hm (P:=P) (w:=w) T a n c hu k k' m m' h0 h1 h2
 simp only [execOp,hk.eval hx,eU,jP,hk.eval hh,hk.eval hh',bE,nZ (P:=P) (w:=w) T _ _ _ _ hu,this,he,hr,aO,bJ,sliced,subA,oY]
end
section
variable {P:Program} {ops:Array Oper} {rest:List Oper} {B:Bs} {e:Env} {D:List Deferred} {H:Hp} {G:Imm} {K:Act→World→Prop}
 {ty:TypeId} {pos:String} {after:Array Edge} {d:Nat} {α:Type} [Cells α]
theorem Qf {w:World} (hw:HoldH H G w) {T T2 E:Nat} (hT:rS P T E (Cells.sz α)) {t b:Nat} {ad:Option Addr} {c c2:Nat} {xs ys:List α} {junk:List Value}
 (ht:H.get t=some (some b,rV E xs junk)) (hsrc:Src H G ad ys) (hle:ys.length≤xs.length) :
 ∃ w',(Builtin.copy_ #[T,T2] ty #[.slice (some ⟨b,0,none⟩) xs.length c,.slice ad ys.length c2]).run P w=.ok (.int .i64 (ys.length:Int)) w'∧Upd (·=b) w w'∧w'.heap[b]?=some (rV E (ys++xs.drop ys.length) junk):=by
 have hb:=hw.own t b _ ht
 have hmin:Nat.min ys.length xs.length=ys.length:=cS hle
 cases hq:P.info? E with
 | none=>have:=hT.2;simp [hq] at this
 | some i =>
   have hi:i.size=Cells.sz α:=by have:=hT.2;simpa [hq] using this
   rcases hsrc w hw with ⟨rfl,rfl⟩ | ⟨src,rfl,hsr⟩
   · refine ⟨w,?_,lZ _ _,by simpa using hb⟩
     have hm0:Nat.min (0:Nat) xs.length=0:=Nat.zero_min _
     simp [Builtin.copy_,aS hT.1,Builtin.lenOf,Builtin.firstCells,sizeOf,typeInfo,hq,storeCells,hm0,goInt]
   have hl:=lF (P:=P) w src (rX ys) hsr
   have hfy:(rX ys).length=ys.length*Cells.sz α:=rT ys
   have hfx:(rX xs).length=xs.length*Cells.sz α:=rT xs
   have hmul:=gC (Cells.sz α) hle
   have hfit:0+0+(rX ys).length≤((rX xs++junk).toArray).size:=by
    rw [oC,aI];omega
   have hst:=lW P b 0 E (rX ys) 0 (rX xs++junk).toArray w hb hfit (fun v hv=>eZ.1 (Hw ys) v hv)
   refine ⟨_,?_,tM w b (((rX xs++junk).toArray.toList.take (0+0)++rX ys++(rX xs++junk).toArray.toList.drop (0+0+(rX ys).length)).toArray),?_⟩
   · rw [hfy] at hl
     simp [Builtin.copy_,aS hT.1,Builtin.lenOf,Builtin.firstCells,sizeOf,typeInfo,hq,hi,hmin,hl,hst,goInt]
   rw [lM w b _ _ E _ hb]
   have hsplit:rX xs=rX (xs.take ys.length)++rX (xs.drop ys.length):=by rw [←tV,cU]
   have htl:(rX (xs.take ys.length)).length=(rX ys).length:=by rw [rT,rT,bC,cS hle]
   unfold rV
   rw [tV]
   simp only [gU,cO,bQ,fM]
   rw [hsplit,dJ,←htl,List.drop_left,dJ]
theorem Ik {x y:Operand} {T T2 E b:Nat} {ad:Option Addr} {c c2:Nat} {xs ys:List α} {junk:List Value} (t:Nat) (hn:Nat.ble (d+1) B.n=true) (hT:rS P T E (Cells.sz α))
 (hx:e.ev x=some (.slice (some ⟨b,0,none⟩) xs.length c)) (hy:e.ev y=some (.slice ad ys.length c2)) (ht:H.get t=some (some b,rV E xs junk)) (hsrc:Src H G ad ys) (hle:ys.length≤xs.length)
 (h:Wl P ops rest B ⟨(d,.int .i64 (ys.length:Int)) :: e,D,(t,some b,rV E (ys++xs.drop ys.length) junk) :: H,G⟩ K) :
 Wl P ops (⟨some d,.call { callee:=.builtin .copy,args:=#[x,y],argTypes:=#[T,T2] },ty,pos,after,none⟩ :: rest) B ⟨e,D,H,G⟩ K:=by
 refine qY (v:=.int .i64 (ys.length:Int)) (x:=.value (.int .i64 (ys.length:Int))) ht (.inr ⟨rfl,d,rfl,hn⟩) (fun a w hh=>?_) h
 obtain ⟨w',hrun,hu,hb⟩:=Qf (c:=c) (c2:=c2) (T2:=T2) (ty:=ty) hh.mem hT ht hsrc hle
 refine ⟨w',?_,hu,hb⟩
 simp only [execOp,resolve,invoke,builtin,bE,bJ,aO,kS,bX,iT,hh.eval hx,hh.eval hy,hrun]
end
theorem CY {P:Program} {e:Env} {H:Hp} {G:Imm} {ty t t':TypeId} {x y:Operand} {m n:Int} (hx:e.ev x=some (.int .u64 m)) (hy:e.ev y=some (.int .u64 n)) (h0:m<n∧0≤m∧n≤18446744073709551615):Qy P (.binOp .sub t x y t') ty e H G (.int .u64 (m - n+18446744073709551616)):=by
 have h:=Bu (P:=P) (H:=H) (G:=G) (ty:=ty) (t:=t) (t':=t') hx hy
 have e1:IntKind.u64.wrap (m - n)=m - n+18446744073709551616:=by rw [mW];omega
 rw [e1] at h;exact h
abbrev pL:=@CY
theorem Il {P:Program} {f:FuncId} {args:List Value} {G:Imm} {u:Value} (h:∀ w,Calls P f args.toArray w fun e w'=>e=.returned u∧w'=w):Does P f args G [] (fun v G' Ho=>v=u∧G'=G∧Ho=[]):=
 fun w hw=>(h w).mono fun e w' he=>by
  obtain ⟨rfl,rfl⟩:=he
  exact ⟨u,G,[],rfl,hw,cD G,lZ _ _,fun b h1 h2=>absurd h2 h1,fun t b o ht=>by simp [Hp.get] at ht,rfl,rfl,rfl⟩
end Go.Sl
namespace Go.Proofs.YtngphgeghfdjbaaGreatDoor
open Go Go.Sl
def sB (x y:Int):Int:=if x<y then -1 else if y<x then 1 else 0
theorem wA {x y:Int} (h:x<y):sB x y=-1:=aR h
theorem wQ {x y:Int} (h:y<x):sB x y=1:=by unfold sB;rw [aK (by omega),aR h]
theorem zZ {x y:Int} (h:x=y):sB x y=0:=by unfold sB;rw [aK (by omega),aK (by omega)]
theorem yO {x y u v:Int} (h1:x<y↔u<v) (h2:y<x↔v<u):sB x y=sB u v:=by unfold sB;simp only [h1,h2]
theorem uJ {l m:List U32} (he:m=l.take m.length) (ht:Trim l m.length):rI m=rI l:=by rw [he];exact ht.val
theorem zK {l m:List U32} (he:m=l.take m.length) (ht:Trim l m.length):Top m:=by rw [he];exact ht.top
theorem uE {l m:List U32} (he:m=l.take m.length) (hd:Lims l):Lims m:=by rw [he];exact hd.take _
section
attribute [local irreducible] rI pb sB
theorem Fv (G:Imm) (a:Option Addr) (c:Nat) (l:List U32) (hl:Arr G a l) (hb:l.length≤1099511627776) (hc:l.length≤c) :
 Does Tryz.prog 150 [.slice a l.length c] G [] (fun v G' Ho=>∃ (b:Option Addr) (m:List U32),v=.slice b m.length m.length∧Arr G b m∧m=l.take m.length∧Trim l m.length∧m.length≤l.length∧G'=G∧Ho=[]):=by
 refine D0 Tryz.func150 Tryz.ntmps150 fun w=>?_
 refine cJ 14 [] ?_
 refine fS (ι:=Nat) (fun n=>([(3,.int .i64 (n:Int)),(2,.slice none 0 0),(0,.slice a (List.length l) c)],[])) (fun n=>n≤l.length∧(∀ j,n≤j→j<l.length→(l[j]?.getD default).v=0)) (fun n=>n) (l.length) (⟨aH _,fun j h1 h2=>absurd h2 rG⟩) fun n=>fun hk=>?_
 obtain ⟨hn,hz⟩:=hk
 have done:(n=0∨(l[n - 1]?.getD default).v≠0)→∃ (b:Option Addr) (m:List U32),Value.slice (subA a n 0 1) n n=.slice b m.length m.length∧Arr G b m∧m=l.take m.length∧Trim l m.length∧m.length≤l.length∧G=G∧([]:Hp)=[]:=fun ht=>by
  have e:(l.take n).length=n:=by rw [bC,cS hn]
  refine ⟨subA a n 0 1,l.take n,by rw [e],Ii hl n,by rw [e],?_,by rw [e];exact hn,rfl,rfl⟩
  rw [e];exact ⟨hn,hz,ht⟩
 refine aM 6 [] ?_
 apply dS 7 8 15 rfl
 intro hg1
 refine aA 7 [] ?_
 refine dI (α:=U32) T.sl87 ?_
 refine aA 1 [] ?_
 refine fJ 0 T.one166 ?_
 refine aA 3 [] ?_
 exact cQ 7 0
 intro hg1
 refine aA 7 [] ?_
 exact cQ 7 0
 refine bR 2 [] ?_
 refine dL (fun hc1=>?_) fun hc1=>?_
 refine bG 9 [] ?_
 rotate_left
 refine aM 10 [] ?_
 refine aN (CX T.sl87 rfl rfl rfl rG rG rG) ?_
 refine aY 4 [] ?_
 refine bT ?_
 rotate_left
 · refine dC 3 rfl (show _=Value.int .i64 ((n - 1:Nat):Int) by congr 1;omega) ?_
   refine cP (n - 1) ?_ ?_
   · refine ⟨by omega,fun j h1 h2=>?_⟩
     rcases aJ j n with h3 | h3
     · have e:j=((n:Int) - 1).toNat:=rG
       rw [e];exact hc1.2
     exact hz j h3 h2
   omega
 refine done ?_
 rcases eQ n with h | h
 · exact .inl h
 refine .inr fun h2=>hc1 ⟨by omega,?_⟩
 have e:((n:Int) - 1).toNat=n - 1:=rG
 rw [e];exact h2
theorem KT (G:Imm) (a b:Option Addr) (ca cb:Nat) (la lb:List U32) (ha:Arr G a la) (hb:Arr G b lb) (da:Lims la) (db:Lims lb) (h1:la.length≤1073741824) (h2:lb.length≤1073741824) (h3:la.length≤ca) (h4:lb.length≤cb) :
 Does Tryz.prog 98 [.slice a la.length ca,.slice b lb.length cb] G [] (fun v G' Ho=>v=.int .i64 (sB (rI la) (rI lb))∧G'=G∧Ho=[]):=by
 refine D0 Tryz.func98 Tryz.ntmps98 fun w=>?_
 refine aM 8 [] ?_
 refine bU 0 rfl (Fv _ _ _ _ rH rG tU) fun v1 G1 Ho1 hle1 hp=>?_
 obtain ⟨ta1,tm1,rfl,hta1,hte1,htr1,htl1,rfl,rfl⟩:=hp
 refine aA 1 [] ?_
 refine bU 0 rfl (Fv _ _ _ _ rH rG tU) fun v2 G2 Ho2 hle2 hp=>?_
 obtain ⟨ta2,tm2,rfl,hta2,hte2,htr2,htl2,rfl,rfl⟩:=hp
 refine bR 16 [] ?_
 refine dL (fun hc1=>?_) fun hc1=>?_
 refine bG 8 [] ?_
 refine bT ?_
 rotate_left
 refine cJ 10 [] ?_
 refine dL (fun hc2=>?_) fun hc2=>?_
 refine bG 8 [] ?_
 refine bT ?_
 rotate_left
 refine cJ 13 [] ?_
 rotate_left
 · rw [←uJ hte1 htr1,←uJ hte2 htr2]
   exact ⟨by rw [wA (wG (uE hte1 da) (uE hte2 db) (zK hte2 htr2) rG)],rfl,rfl⟩
 · rw [←uJ hte1 htr1,←uJ hte2 htr2]
   exact ⟨by rw [wQ (wG (uE hte2 db) (uE hte1 da) (zK hte1 htr1) rG)],rfl,rfl⟩
 rw [←uJ hte1 htr1,←uJ hte2 htr2]
 have dma:=uE hte1 da
 have dmb:=uE hte2 db
 have l1:=htr1.1
 have l2:=htr2.1
 have hn:tm1.length=tm2.length:=rG
 refine fS (ι:=Nat) (fun k=>([(5,.int .i64 ((k:Int) - 1)),(1,.slice ta2 (List.length tm2) (List.length tm2)),(0,.slice ta1 (List.length tm1) (List.length tm1))],[])) (fun k=>k≤tm1.length∧∀ j,k≤j→j<tm1.length→lg tm1 j=lg tm2 j) (fun k=>k) (tm1.length) (⟨aH _,fun j h1 h2=>absurd h2 rG⟩) fun k=>fun hk=>?_
 obtain ⟨hk1,hz⟩:=hk
 rcases eQ k with rfl | hpos
 · refine bG 19 [0] ?_
   refine bT ?_
   have e:tm1=tm2:=by
    have:=Ij (k:=0) hn hz
    simpa using this
   exact ⟨by rw [e,zZ rfl],rfl,rfl⟩
 have e1:(tm1[((k:Int) - 1).toNat]?.getD default).v=lg tm1 (k - 1):=by
  unfold lg;rw [show (((k:Nat):Int) - 1).toNat=((k - 1:Nat):Int).toNat by omega]
 have e2:(tm2[((k:Int) - 1).toNat]?.getD default).v=lg tm2 (k - 1):=by
  unfold lg;rw [show (((k:Nat):Int) - 1).toNat=((k - 1:Nat):Int).toNat by omega]
 have hz':∀ j,(k - 1)+1≤j→j<tm1.length→lg tm1 j=lg tm2 j:=fun j h1 h2=>hz j rG h2
 refine cJ 14 [1] ?_
 refine dT [] [] T.mixed [[0],[1]] ?_
 refine iM (α:=U32) 2 T.sl87 ?_
 refine nW 3 [] 0 T.one166 ?_
 refine eD [[4],[5]] ?_
 refine iM (α:=U32) 6 T.sl87 ?_
 refine nW 7 [] 0 T.one166 ?_
 refine eD [[8],[9]] ?_
 refine dY ?_
 refine cB ?_
 refine dL (fun hc3=>?_) fun hc3=>?_
 refine bG 12 [] ?_
 refine bT ?_
 rotate_left
 refine dN ?_
 refine dT [] [] T.mixed [[0],[1]] ?_
 refine iM (α:=U32) 2 T.sl87 ?_
 refine nW 3 [] 0 T.one166 ?_
 refine eD [[4],[5]] ?_
 refine iM (α:=U32) 6 T.sl87 ?_
 refine nW 7 [] 0 T.one166 ?_
 refine eD [[8],[9]] ?_
 refine dY ?_
 refine cB ?_
 refine dL (fun hc4=>?_) fun hc4=>?_
 refine bG 12 [] ?_
 refine bT ?_
 rotate_left
 refine bG 9 [] ?_
 rotate_left
 · exact ⟨by rw [wA (Qe hn rG dma dmb hz' rG)],rfl,rfl⟩
 · exact ⟨by rw [wQ (Qe hn.symm rG dmb dma (fun j h1 h2=>(hz' j h1 rG).symm) rG)],rfl,rfl⟩
 refine dC 5 rfl (show _=Value.int .i64 (((k - 1:Nat):Int) - 1) by congr 1;omega) ?_
 refine cP (k - 1) ?_ ?_
 · refine ⟨by omega,fun j h1 h2=>?_⟩
   rcases aJ j k with h3 | h3
   · have e:j=k - 1:=rG
     rw [e];omega
   exact hz j h3 h2
 omega
theorem LY (G:Imm) (a:Option Addr) (c:Nat) (l:List U32) (hl:Arr G a l) (hb:l.length≤1073741824) (hc:l.length≤c) :
 Does Tryz.prog 151 [.slice a l.length c] G [] (fun v G' Ho=>∃ (b:Option Addr) (m:List U32),v=.slice b m.length m.length∧Arr G' b m∧m=l.take m.length∧Trim l m.length∧m.length≤l.length∧Ho=[]):=by
 refine D0 Tryz.func151 Tryz.ntmps151 fun w=>?_
 refine aM 8 [] ?_
 refine bU 0 rfl (Fv _ _ _ _ rH rG tU) fun v1 G1 Ho1 hle1 hp=>?_
 obtain ⟨ta1,tm1,rfl,hta1,hte1,htr1,htl1,rfl,rfl⟩:=hp
 refine aL 7 [] ?_
 refine gT (α:=U32) 0 rfl T.sl87 T.el166 rfl rfl rG rG fun b1=>?_
 refine aL 7 [] ?_
 refine Ik (α:=U32) 0 rfl T.sl87 rfl rfl rfl (oX rH) (by first | omega | (simp only [aI,bV,cT,aE];omega)) ?_
 refine aY 9 [] ?_
 have e1:(List.replicate ((tm1.length:Nat):Int).toNat (default:U32)).length=tm1.length:=by rw [aE,aF]
 refine iD 0 (rV 166 tm1 []) rfl (by rw [eC (by rw [e1];exact aH _),fN]) ?_
 refine dC 2 rfl (show _=Value.slice (some ⟨b1,0,none⟩) tm1.length tm1.length by rw [e1]) ?_
 refine dW 0 rfl (iS (xs:=tm1) (by simp only [maxLen];omega)) fun G9 hle9 hA=>?_
 refine bT ?_
 exact ⟨_,tm1,rfl,hA,hte1,htr1,htl1,rfl⟩
end
def Nat32 (G:Imm) (v:Value) (z:Int) (n:Nat):Prop:=∃ (b:Option Addr) (m:List U32),v=.slice b m.length m.length∧Arr G b m∧Lims m∧Top m∧rI m=z∧m.length≤n
theorem Nat32.of {G:Imm} {b:Option Addr} {l m:List U32} {z:Int} {n:Nat} (h:Arr G b m) (he:m=l.take m.length) (ht:Trim l m.length) (hd:Lims l) (hz:rI l=z) (hn:m.length≤n):Nat32 G (.slice b m.length m.length) z n:=
 ⟨b,m,rfl,h,uE he hd,zK he ht,(uJ he ht).trans hz,hn⟩
abbrev nC:=@Nat32.of
section
attribute [local irreducible] rI pb sB
theorem c97 (G:Imm) (a b:Option Addr) (ca cb:Nat) (la lb:List U32) (ha:Arr G a la) (hb:Arr G b lb) (da:Lims la) (db:Lims lb) (h1:la.length≤1073741824) (h2:lb.length≤1073741824) :
 Does Tryz.prog 97 [.slice a la.length ca,.slice b lb.length cb] G [] (fun v G' Ho=>Nat32 G' v (rI la+rI lb) (max la.length lb.length+1)∧Ho=[]):=by
 refine D0 Tryz.func97 Tryz.ntmps97 fun w=>?_
 refine cJ 5 [] ?_
 refine pT (ι:=Option Addr×Nat×List U32×(Option Addr×Nat×List U32)) (fun (xa,ka,l1,(xb,kb,l2))=>([(0,.slice xa l1.length ka),(1,.slice xb l2.length kb),(4,.slice none 0 0)],[])) (fun (xa,ka,l1,(xb,kb,l2))=>Arr G xa l1∧Arr G xb l2∧Lims l1∧Lims l2∧l2.length≤l1.length∧l1.length≤max la.length lb.length∧rI l1+rI l2=rI la+rI lb) ?_ fun ⟨xa,ka,l1,(xb,kb,l2)⟩=>fun (hk:Arr G xa l1∧Arr G xb l2∧Lims l1∧Lims l2∧l2.length≤l1.length∧l1.length≤max la.length lb.length∧rI l1+rI l2=rI la+rI lb)=>?_
 · by_cases hlt:la.length<lb.length
   · refine bG 16 [1] ?_
     refine qX ((b,cb,lb,(a,ca,la))) ?_
     exact ⟨hb,ha,db,da,by omega,by omega,Int.add_comm _ _⟩
   refine bG 11 [0] ?_
   refine qX ((a,ca,la,(b,cb,lb))) ?_
   exact ⟨ha,hb,da,db,by omega,by omega,rfl⟩
 obtain ⟨ha1,hb1,d1,d2,hl21,hl1,hsum⟩:=hk
 clear ha hb
 refine aM 5 [] ?_
 refine gT (α:=U32) 0 rfl T.sl87 T.el166 rfl rfl rG rG fun b1=>?_
 refine bR 17 [] ?_
 obtain ⟨N,hN⟩:∃ N,N=l1.length+1:=⟨_,rfl⟩
 have hM:((l1.length:Int)+1).toNat=N:=rG
 rw [hM]
 have hown:∀ r:List U32,r.length=N→OwnA (some ⟨b1,0,none⟩) N r []:=fun r hr=>.inr ⟨b1,rfl,by rw [hr];rfl,by omega,by simp only [maxLen];omega⟩
 refine iP 5 rfl (show _=Value.slice (some ⟨b1,0,none⟩) (List.replicate N (default:U32)).length N by rw [aE]) ?_
 refine fS (ι:=Nat×Int×List U32) (fun (i,cy,r)=>([(22,.int .i64 (i:Int)),(6,.int .u64 cy),(5,.slice (some ⟨b1,0,none⟩) r.length N),(21,.int .i64 (l1.length:Int)),(20,.slice xa (List.length l1) ka),(0,.slice xa (List.length l1) ka),(1,.slice xb (List.length l2) kb),(4,.slice none 0 0)],[(0,some b1,rV 166 r [])])) (fun (i,cy,r)=>i≤l1.length∧r.length=N∧Lims r∧0≤cy∧cy≤1∧rI (l1.take i)+rI (l2.take i)=rI (r.take i)+pb i*cy) (fun (i,cy,r)=>l1.length - i) ((0,0,List.replicate N (default:U32))) (⟨aT _,aE,mU N,by decide,by decide,by rw [bQ,bQ,bQ,cC,dB,sH];rfl⟩) fun ⟨i,cy,r⟩=>fun hk=>?_
 obtain ⟨hi,hrN,hdr,hc0,hc1,hv⟩:=hk
 have hor:=hown r hrN
 rcases aJ i l1.length with hia | hia
 · have r1:0≤(l1[(i:Int).toNat]?.getD default).v∧(l1[(i:Int).toNat]?.getD default).v<4294967296:=xP d1 hia
   rcases aJ i l2.length with hib | hib
   · have r2:0≤(l2[(i:Int).toNat]?.getD default).v∧(l2[(i:Int).toNat]?.getD default).v<4294967296:=xP d2 hib
     refine aM 14 [1] ?_
     refine dI (α:=U32) T.sl87 ?_
     refine fJ 0 T.one166 ?_
     refine aL 8 [] ?_
     refine aN (bZ rfl T.u165 rfl rG) ?_
     refine aN (fV rfl rfl rG) ?_
     refine aL 17 [1] ?_
     refine dI (α:=U32) T.sl87 ?_
     refine fJ 0 T.one166 ?_
     refine aN (bZ rfl T.u165 rfl rG) ?_
     refine aN (fV rfl rfl rG) ?_
     refine aL 8 [] ?_
     refine aN (gG rfl T.u166 rfl) ?_
     refine fP (α:=U32) T.sl87 ?_
     refine eT (z:=_) 0 T.size166 rfl rfl rfl rH rG rfl fun ho1=>?_
     refine aL 4 [] ?_
     refine aN (eY rfl rfl rG) ?_
     refine aY 8 [] ?_
     refine iD 0 (rV 166 (r.set i (⟨(cy+(l1[(i:Int).toNat]?.getD default).v+(l2[(i:Int).toNat]?.getD default).v) % 4294967296⟩:U32)) []) rfl Lk ?_
     refine dC 5 rfl (show _=Value.slice (some ⟨b1,0,none⟩) (r.set i (⟨(cy+(l1[(i:Int).toNat]?.getD default).v+(l2[(i:Int).toNat]?.getD default).v) % 4294967296⟩:U32)).length N by rw [aG]) ?_
     refine cP ((i+1,(cy+(l1[(i:Int).toNat]?.getD default).v+(l2[(i:Int).toNat]?.getD default).v) / 4294967296,r.set i (⟨(cy+(l1[(i:Int).toNat]?.getD default).v+(l2[(i:Int).toNat]?.getD default).v) % 4294967296⟩:U32))) ?_ ?_
     · exact ⟨by omega,by rw [aG];exact hrN,sE hdr _ (An _),by omega,by omega,Ci rG hv rfl⟩
     show l1.length - (i+1)<l1.length - i
     omega
   have z:=zJ hib
   refine aM 14 [1] ?_
   refine dI (α:=U32) T.sl87 ?_
   refine fJ 0 T.one166 ?_
   refine aL 8 [] ?_
   refine aN (bZ rfl T.u165 rfl rG) ?_
   refine aN (fV rfl rfl rG) ?_
   refine aL 20 [0] ?_
   refine aN (gG rfl T.u166 rfl) ?_
   refine fP (α:=U32) T.sl87 ?_
   refine eT (z:=_) 0 T.size166 rfl rfl rfl rH rG rfl fun ho1=>?_
   refine aL 4 [] ?_
   refine aN (eY rfl rfl rG) ?_
   refine aY 8 [] ?_
   refine iD 0 (rV 166 (r.set i (⟨(cy+(l1[(i:Int).toNat]?.getD default).v) % 4294967296⟩:U32)) []) rfl Lk ?_
   refine dC 5 rfl (show _=Value.slice (some ⟨b1,0,none⟩) (r.set i (⟨(cy+(l1[(i:Int).toNat]?.getD default).v) % 4294967296⟩:U32)).length N by rw [aG]) ?_
   refine cP ((i+1,(cy+(l1[(i:Int).toNat]?.getD default).v) / 4294967296,r.set i (⟨(cy+(l1[(i:Int).toNat]?.getD default).v) % 4294967296⟩:U32))) ?_ ?_
   · exact ⟨by omega,by rw [aG];exact hrN,sE hdr _ (An _),by omega,by omega,Ci rG hv (by rw [z,dB];rfl)⟩
   show l1.length - (i+1)<l1.length - i
   omega
 have hii:i=l1.length:=rG
 subst hii
 refine aM 18 [0] ?_
 refine aN (gB rfl T.u166 rfl rG) ?_
 refine fP (α:=U32) T.sl87 ?_
 refine eT (z:=_) 0 T.size166 rfl rfl rfl rH rG rfl fun ho1=>?_
 refine aL 5 [] ?_
 have hd2:=sE hdr l1.length (s:=cy) rG
 have hlen:(r.set l1.length (⟨cy⟩:U32)).length=N:=by rw [aG];exact hrN
 have hval:rI (r.set l1.length (⟨cy⟩:U32))=rI la+rI lb:=by
  rw [rQ (aH _),rQ hl21] at hv
  rw [←hsum,hv]
  have h3:=sL (r.set l1.length (⟨cy⟩:U32)) l1.length
  rw [rQ rG,jB (aH _),Aw rG] at h3
  exact h3
 refine nO 0 (rV 166 (r.set l1.length (⟨cy⟩:U32)) []) rfl Lk ?_
 refine jO 56 rfl (show _=Value.slice (some ⟨b1,0,none⟩) (r.set l1.length (⟨cy⟩:U32)).length N by rw [aG]) ?_
 refine cN 0 rfl (hown _ hlen) fun G9 hle9 hA=>?_
 refine bU 1 rfl (Fv _ _ _ _ rH rG tU) fun v1 G1 Ho1 hle1 hp=>?_
 obtain ⟨ta1,tm1,rfl,hta1,hte1,htr1,htl1,rfl,rfl⟩:=hp
 refine aY 4 [] ?_
 refine bT ?_
 exact ⟨nC hta1 hte1 htr1 hd2 hval rG,rfl⟩
end
section
attribute [local irreducible] rI pb sB
theorem c99 (G:Imm) (a b:Option Addr) (ca cb:Nat) (la lb:List U32) (ha:Arr G a la) (hb:Arr G b lb) (da:Lims la) (db:Lims lb) (h1:la.length≤1073741824) (h2:lb.length≤la.length) (h3:la.length≤ca) (h4:lb.length≤cb) (hle:rI lb≤rI la) :
 Does Tryz.prog 99 [.slice a la.length ca,.slice b lb.length cb] G [] (fun v G' Ho=>∃ r,v=.tuple #[r,.int .i64 0]∧Nat32 G' r (rI la - rI lb) la.length∧Ho=[]):=by
 have hcmp:0≤sB (rI la) (rI lb):=by
  rcases qF hle with h | h
  · rw [wQ h];decide
  rw [zZ h.symm];decide
 refine D0 Tryz.func99 Tryz.ntmps99 fun w=>?_
 refine aM 11 [] ?_
 refine cG rfl (KT _ _ _ _ _ _ _ rH rH rH rH rG rG rG rG) ?_
 refine aL 10 [0] ?_
 refine gT (α:=U32) 0 rfl T.sl87 T.el166 rfl rfl rG rG fun b1=>?_
 refine bR 17 [] ?_
 obtain ⟨N,hN⟩:∃ N,N=la.length:=⟨_,rfl⟩
 have hM:(la.length:Int).toNat=N:=rG
 rw [hM]
 have hown:∀ r:List U32,r.length=N→OwnA (some ⟨b1,0,none⟩) N r []:=fun r hr=>.inr ⟨b1,rfl,by rw [hr];rfl,by omega,by simp only [maxLen];omega⟩
 refine iP 6 rfl (show _=Value.slice (some ⟨b1,0,none⟩) (List.replicate N (default:U32)).length N by rw [aE]) ?_
 refine fS (ι:=Nat×Int×List U32) (fun (i,cy,r)=>([(21,.int .i64 (i:Int)),(7,.int .u64 cy),(6,.slice (some ⟨b1,0,none⟩) r.length N),(20,.int .i64 (la.length:Int)),(19,.slice a (List.length la) ca),(5,.int .i64 0),(4,.slice none 0 0),(1,.slice b (List.length lb) cb)],[(0,some b1,rV 166 r [])])) (fun (i,cy,r)=>i≤la.length∧r.length=N∧Lims r∧0≤cy∧cy≤1∧rI (la.take i) - rI (lb.take i)=rI (r.take i) - pb i*cy) (fun (i,cy,r)=>la.length - i) ((0,0,List.replicate N (default:U32))) (⟨aT _,aE,mU N,by decide,by decide,by rw [bQ,bQ,bQ,cC,mG,sH];rfl⟩) fun ⟨i,cy,r⟩=>fun hk=>?_
 obtain ⟨hi,hrN,hdr,hc0,hc1,hv⟩:=hk
 have hor:=hown r hrN
 rcases aJ i la.length with hia | hia
 · have r1:0≤(la[(i:Int).toNat]?.getD default).v∧(la[(i:Int).toNat]?.getD default).v<4294967296:=xP da hia
   have e1:(la[(i:Int).toNat]?.getD default).v=lg la i:=rfl
   rcases aJ i lb.length with hib | hib
   · have r2:0≤(lb[(i:Int).toNat]?.getD default).v∧(lb[(i:Int).toNat]?.getD default).v<4294967296:=xP db hib
     have e2:(lb[(i:Int).toNat]?.getD default).v=lg lb i:=rfl
     by_cases hlt:(la[((i:Nat):Int).toNat]?.getD default).v<cy+(lb[((i:Nat):Int).toNat]?.getD default).v
     · refine aM 14 [1] ?_
       refine dI (α:=U32) T.sl87 ?_
       refine fJ 0 T.one166 ?_
       refine aL 24 [1] ?_
       refine dI (α:=U32) T.sl87 ?_
       refine fJ 0 T.one166 ?_
       refine aN (bZ rfl T.u165 rfl rG) ?_
       refine aN (fV rfl rfl rG) ?_
       refine aL 6 [] ?_
       refine aN (bZ rfl T.u165 rfl rG) ?_
       refine aA 1 [] ?_
       refine aN (pL rfl rfl rG) ?_
       refine aL 8 [] ?_
       refine aN (gG rfl T.u166 rfl) ?_
       refine fP (α:=U32) T.sl87 ?_
       refine eT (z:=_) 0 T.size166 rfl rfl rfl rH rG rfl fun ho1=>?_
       refine aL 4 [] ?_
       refine aN (eY rfl rfl rG) ?_
       refine aN (nI rfl rfl rG) ?_
       refine aY 8 [] ?_
       have es:((la[(i:Int).toNat]?.getD default).v - (cy+(lb[(i:Int).toNat]?.getD default).v)+18446744073709551616) % 4294967296=((la[(i:Int).toNat]?.getD default).v - (cy+(lb[(i:Int).toNat]?.getD default).v)+4294967296):=rG
       have ec:((la[(i:Int).toNat]?.getD default).v - (cy+(lb[(i:Int).toNat]?.getD default).v)+18446744073709551616) / 4294967296 % 2=1:=rG
       refine dC 7 rfl (show _=Value.int .u64 1 by rw [ec]) ?_
       refine iD 0 (rV 166 (r.set i (⟨((la[(i:Int).toNat]?.getD default).v - (cy+(lb[(i:Int).toNat]?.getD default).v)+4294967296)⟩:U32)) []) rfl Uy ?_
       refine dC 6 rfl (show _=Value.slice (some ⟨b1,0,none⟩) (r.set i (⟨((la[(i:Int).toNat]?.getD default).v - (cy+(lb[(i:Int).toNat]?.getD default).v)+4294967296)⟩:U32)).length N by rw [aG]) ?_
       refine cP ((i+1,1,r.set i (⟨((la[(i:Int).toNat]?.getD default).v - (cy+(lb[(i:Int).toNat]?.getD default).v)+4294967296)⟩:U32))) ?_ ?_
       · exact ⟨by omega,by rw [aG];exact hrN,sE hdr _ rG,by decide,by decide,Cj (cy':=1) rG hv (by rw [←e1,←e2];omega)⟩
       show la.length - (i+1)<la.length - i
       omega
     refine aM 14 [1] ?_
     refine dI (α:=U32) T.sl87 ?_
     refine fJ 0 T.one166 ?_
     refine aL 24 [1] ?_
     refine dI (α:=U32) T.sl87 ?_
     refine fJ 0 T.one166 ?_
     refine aN (bZ rfl T.u165 rfl rG) ?_
     refine aN (fV rfl rfl rG) ?_
     refine aL 6 [] ?_
     refine aN (bZ rfl T.u165 rfl rG) ?_
     refine aA 1 [] ?_
     refine aN (iR rfl rfl rG) ?_
     refine aL 8 [] ?_
     refine aN (gB rfl T.u166 rfl rG) ?_
     refine fP (α:=U32) T.sl87 ?_
     refine eT (z:=_) 0 T.size166 rfl rfl rfl rH rG rfl fun ho1=>?_
     refine aL 4 [] ?_
     refine aN (eY rfl rfl rG) ?_
     refine aN (nI rfl rfl rG) ?_
     refine aY 8 [] ?_
     have es:((la[(i:Int).toNat]?.getD default).v - (cy+(lb[(i:Int).toNat]?.getD default).v))=((la[(i:Int).toNat]?.getD default).v - (cy+(lb[(i:Int).toNat]?.getD default).v)):=rG
     have ec:((la[(i:Int).toNat]?.getD default).v - (cy+(lb[(i:Int).toNat]?.getD default).v)) / 4294967296 % 2=0:=rG
     refine dC 7 rfl (show _=Value.int .u64 0 by rw [ec]) ?_
     refine iD 0 (rV 166 (r.set i (⟨((la[(i:Int).toNat]?.getD default).v - (cy+(lb[(i:Int).toNat]?.getD default).v))⟩:U32)) []) rfl Uy ?_
     refine dC 6 rfl (show _=Value.slice (some ⟨b1,0,none⟩) (r.set i (⟨((la[(i:Int).toNat]?.getD default).v - (cy+(lb[(i:Int).toNat]?.getD default).v))⟩:U32)).length N by rw [aG]) ?_
     refine cP ((i+1,0,r.set i (⟨((la[(i:Int).toNat]?.getD default).v - (cy+(lb[(i:Int).toNat]?.getD default).v))⟩:U32))) ?_ ?_
     · exact ⟨by omega,by rw [aG];exact hrN,sE hdr _ rG,by decide,by decide,Cj (cy':=0) rG hv (by rw [←e1,←e2];omega)⟩
     show la.length - (i+1)<la.length - i
     omega
   have z:=zJ hib
   by_cases hlt:(la[((i:Nat):Int).toNat]?.getD default).v<cy
   · refine aM 14 [1] ?_
     refine dI (α:=U32) T.sl87 ?_
     refine fJ 0 T.one166 ?_
     refine aL 25 [0] ?_
     refine aN (bZ rfl T.u165 rfl rG) ?_
     refine aA 1 [] ?_
     refine aN (pL rfl rfl rG) ?_
     refine aL 8 [] ?_
     refine aN (gG rfl T.u166 rfl) ?_
     refine fP (α:=U32) T.sl87 ?_
     refine eT (z:=_) 0 T.size166 rfl rfl rfl rH rG rfl fun ho1=>?_
     refine aL 4 [] ?_
     refine aN (eY rfl rfl rG) ?_
     refine aN (nI rfl rfl rG) ?_
     refine aY 8 [] ?_
     have es:((la[(i:Int).toNat]?.getD default).v - (cy)+18446744073709551616) % 4294967296=((la[(i:Int).toNat]?.getD default).v - (cy)+4294967296):=rG
     have ec:((la[(i:Int).toNat]?.getD default).v - (cy)+18446744073709551616) / 4294967296 % 2=1:=rG
     refine dC 7 rfl (show _=Value.int .u64 1 by rw [ec]) ?_
     refine iD 0 (rV 166 (r.set i (⟨((la[(i:Int).toNat]?.getD default).v - (cy)+4294967296)⟩:U32)) []) rfl Uy ?_
     refine dC 6 rfl (show _=Value.slice (some ⟨b1,0,none⟩) (r.set i (⟨((la[(i:Int).toNat]?.getD default).v - (cy)+4294967296)⟩:U32)).length N by rw [aG]) ?_
     refine cP ((i+1,1,r.set i (⟨((la[(i:Int).toNat]?.getD default).v - (cy)+4294967296)⟩:U32))) ?_ ?_
     · exact ⟨by omega,by rw [aG];exact hrN,sE hdr _ rG,by decide,by decide,Cj (cy':=1) rG hv (by rw [←e1,z];omega)⟩
     show la.length - (i+1)<la.length - i
     omega
   refine aM 14 [1] ?_
   refine dI (α:=U32) T.sl87 ?_
   refine fJ 0 T.one166 ?_
   refine aL 25 [0] ?_
   refine aN (bZ rfl T.u165 rfl rG) ?_
   refine aA 1 [] ?_
   refine aN (iR rfl rfl rG) ?_
   refine aL 8 [] ?_
   refine aN (gB rfl T.u166 rfl rG) ?_
   refine fP (α:=U32) T.sl87 ?_
   refine eT (z:=_) 0 T.size166 rfl rfl rfl rH rG rfl fun ho1=>?_
   refine aL 4 [] ?_
   refine aN (eY rfl rfl rG) ?_
   refine aN (nI rfl rfl rG) ?_
   refine aY 8 [] ?_
   have es:((la[(i:Int).toNat]?.getD default).v - (cy))=((la[(i:Int).toNat]?.getD default).v - (cy)):=rG
   have ec:((la[(i:Int).toNat]?.getD default).v - (cy)) / 4294967296 % 2=0:=rG
   refine dC 7 rfl (show _=Value.int .u64 0 by rw [ec]) ?_
   refine iD 0 (rV 166 (r.set i (⟨((la[(i:Int).toNat]?.getD default).v - (cy))⟩:U32)) []) rfl Uy ?_
   refine dC 6 rfl (show _=Value.slice (some ⟨b1,0,none⟩) (r.set i (⟨((la[(i:Int).toNat]?.getD default).v - (cy))⟩:U32)).length N by rw [aG]) ?_
   refine cP ((i+1,0,r.set i (⟨((la[(i:Int).toNat]?.getD default).v - (cy))⟩:U32))) ?_ ?_
   · exact ⟨by omega,by rw [aG];exact hrN,sE hdr _ rG,by decide,by decide,Cj (cy':=0) rG hv (by rw [←e1,z];omega)⟩
   show la.length - (i+1)<la.length - i
   omega
 have hii:i=la.length:=rG
 subst hii
 refine aM 15 [0] ?_
 refine cN 0 rfl hor fun G9 hle9 hA=>?_
 refine bU 1 rfl (Fv _ _ _ _ rH rG tU) fun v1 G1 Ho1 hle1 hp=>?_
 obtain ⟨ta1,tm1,rfl,hta1,hte1,htr1,htl1,rfl,rfl⟩:=hp
 refine aY 5 [] ?_
 refine eJ ?_
 exact ⟨_,rfl,nC hta1 hte1 htr1 hdr (II rfl h2 hle rG hdr ⟨hc0,hc1⟩ hv) rG,rfl⟩
end
theorem Ck (n k:Nat):lg (List.replicate n (default:U32)) k=0:=by
 unfold lg
 rw [aF,fI]
 split <;> rfl
section
attribute [local irreducible] rI pb sB
theorem SS (G:Imm) (a b:Option Addr) (ca cb:Nat) (la lb:List U32) (ha:Arr G a la) (hb:Arr G b lb) (da:Lims la) (db:Lims lb) (h1:la.length≤536870912) (h2:lb.length≤536870912) :
 Does Tryz.prog 120 [.slice a la.length ca,.slice b lb.length cb] G [] (fun v G' Ho=>Nat32 G' v (rI la*rI lb) (la.length+lb.length)∧Ho=[]):=by
 refine D0 Tryz.func120 Tryz.ntmps120 fun w=>?_
 refine aM 12 [] ?_
 refine gT (α:=U32) 0 rfl T.sl87 T.el166 rfl rfl rG rG fun b1=>?_
 refine bR 12 [] ?_
 obtain ⟨N,hN⟩:∃ N,N=la.length+lb.length:=⟨_,rfl⟩
 have hM:((la.length:Int)+(lb.length:Int)).toNat=N:=rG
 rw [hM]
 have hown:∀ r:List U32,r.length=N→OwnA (some ⟨b1,0,none⟩) N r []:=fun r hr=>.inr ⟨b1,rfl,by rw [hr];rfl,by omega,by simp only [maxLen];omega⟩
 refine iP 5 rfl (show _=Value.slice (some ⟨b1,0,none⟩) (List.replicate N (default:U32)).length N by rw [aE]) ?_
 refine fS (ι:=Nat×List U32) (fun (i,r)=>([(19,.int .i64 (i:Int)),(5,.slice (some ⟨b1,0,none⟩) r.length N),(18,.int .i64 (la.length:Int)),(17,.slice a (List.length la) ca),(4,.slice none 0 0),(1,.slice b (List.length lb) cb)],[(0,some b1,rV 166 r [])])) (fun (i,r)=>i≤la.length∧r.length=N∧Lims r∧rI r=rI (la.take i)*rI lb∧∀ k,i+lb.length≤k→lg r k=0) (fun (i,r)=>la.length - i) ((0,List.replicate N (default:U32))) (⟨aT _,aE,mU N,by rw [bQ,sH,gA];exact xC N,fun k _=>Ck N k⟩) fun ⟨i,r⟩=>fun hk=>?_
 obtain ⟨hi,hrN,hdr,hv,hz⟩:=hk
 rcases aJ i la.length with hia | hia
 · have hxi:0≤(la[(i:Int).toNat]?.getD default).v∧(la[(i:Int).toNat]?.getD default).v<4294967296:=xP da hia
   refine aM 14 [1] ?_
   refine dI (α:=U32) T.sl87 ?_
   refine fJ 0 T.one166 ?_
   refine bR 18 [] ?_
   refine fS (ι:=Nat×Int×List U32) (fun (j,c,s)=>([(26,.int .i64 (j:Int)),(8,.int .u64 c),(5,.slice (some ⟨b1,0,none⟩) s.length N),(17,.slice a la.length ca),(18,.int .i64 (la.length:Int)),(25,.int .i64 (lb.length:Int)),(24,.slice b (List.length lb) cb),(7,.int .u32 (Go.Sl.U32.v (Option.getD la[Int.toNat (↑i:Int)]? default))),(6,.int .i64 (↑i:Int)),(19,.int .i64 (↑i:Int)),(4,.slice none 0 0),(1,.slice b (List.length lb) cb)],[(0,some b1,rV 166 s [])])) (fun (j,c,s)=>0≤c∧c≤4294967295∧s.length=N∧Lims s∧rI s+pb (i+j)*c=rI (la.take i)*rI lb+pb i*(lg la i*rI (lb.take j))∧j≤lb.length∧∀ k,i+lb.length≤k→lg s k=0) (fun (j,c,s)=>lb.length - j) ((0,0,r)) (⟨by decide,by decide,hrN,hdr,by rw [cC,bQ,sH,cC,cC,dB,dB];exact hv,aT _,hz⟩) fun ⟨j,c,s⟩=>fun hk=>?_
   obtain ⟨hc0,hc1,hsN,hds,hvs,hjl,hzs⟩:=hk
   have hos:=hown s hsN
   have ekk:((i:Int)+(j:Int)).toNat=i+j:=rG
   rcases aJ j lb.length with hjb | hjb
   · have hyj:0≤(lb[(j:Int).toNat]?.getD default).v∧(lb[(j:Int).toNat]?.getD default).v<4294967296:=xP db hjb
     have hxy:=yN hxi hyj
     have hxy2:0≤(la[(i:Int).toNat]?.getD default).v*(lb[(j:Int).toNat]?.getD default).v∧(la[(i:Int).toNat]?.getD default).v*(lb[(j:Int).toNat]?.getD default).v≤18446744073709551615:=rG
     have hsk:0≤(s[((i:Int)+(j:Int)).toNat]?.getD default).v∧(s[((i:Int)+(j:Int)).toNat]?.getD default).v<4294967296:=hds.at rG
     refine aM 14 [1] ?_
     refine dI (α:=U32) T.sl87 ?_
     refine fJ 0 T.one166 ?_
     refine aL 8 [] ?_
     refine aN (bZ rfl T.u165 rfl rG) ?_
     refine aA 1 [] ?_
     refine aN (bZ rfl T.u165 rfl rG) ?_
     refine aN (mS rfl rfl tU) ?_
     refine aA 4 [] ?_
     refine fP (α:=U32) T.sl87 ?_
     refine mZ 0 0 T.one166 ?_
     refine aN (bZ rfl T.u165 rfl rG) ?_
     refine aN (fV rfl rfl rG) ?_
     refine aN (fV rfl rfl rG) ?_
     refine aL 10 [] ?_
     refine aN (gG rfl T.u166 rfl) ?_
     refine fP (α:=U32) T.sl87 ?_
     refine eT (z:=_) 0 T.size166 rfl rfl rfl rH rG rfl fun ho1=>?_
     refine aL 4 [] ?_
     refine aN (eY rfl rfl rG) ?_
     refine aY 8 [] ?_
     rw [ekk] at ⊢ hsk
     refine dC 5 rfl (show _=Value.slice (some ⟨b1,0,none⟩) (s.set (i+j) (⟨(c+((la[(i:Int).toNat]?.getD default).v*(lb[(j:Int).toNat]?.getD default).v+(s[i+j]?.getD default).v)) % 4294967296⟩:U32)).length N by rw [aG]) ?_
     refine cP ((j+1,(c+((la[(i:Int).toNat]?.getD default).v*(lb[(j:Int).toNat]?.getD default).v+(s[i+j]?.getD default).v)) / 4294967296,s.set (i+j) (⟨(c+((la[(i:Int).toNat]?.getD default).v*(lb[(j:Int).toNat]?.getD default).v+(s[i+j]?.getD default).v)) % 4294967296⟩:U32))) ?_ ?_
     · exact ⟨by omega,by omega,by rw [aG];exact hsN,sE hds _ (An _),Yw rG hvs (by simp only [lg,aF]),by omega,fun k hk=>by rw [vR rG];exact hzs k hk⟩
     show lb.length - (j+1)<lb.length - j
     omega
   have hjj:j=lb.length:=rG
   subst hjj
   refine aM 19 [0] ?_
   refine aN (gB rfl T.u166 rfl rG) ?_
   refine fP (α:=U32) T.sl87 ?_
   refine eT (z:=_) 0 T.size166 rfl rfl rfl rH rG rfl fun ho1=>?_
   refine aY 7 [] ?_
   rw [ekk]
   refine dC 5 rfl (show _=Value.slice (some ⟨b1,0,none⟩) (s.set (i+lb.length) (⟨c⟩:U32)).length N by rw [aG]) ?_
   refine cP ((i+1,s.set (i+lb.length) (⟨c⟩:U32))) ?_ ?_
   · exact ⟨by omega,by rw [aG];exact hsN,sE hds _ rG,CJ rG (hzs _ (aH _)) hvs,fun k hk=>by rw [vR rG];exact hzs k rG⟩
   show la.length - (i+1)<la.length - i
   omega
 have hor:=hown r hrN
 rw [rQ hia] at hv
 refine aM 15 [0] ?_
 refine cN 0 rfl hor fun G9 hle9 hA=>?_
 refine bU 1 rfl (Fv _ _ _ _ rH rG tU) fun v1 G1 Ho1 hle1 hp=>?_
 obtain ⟨ta1,tm1,rfl,hta1,hte1,htr1,htl1,rfl,rfl⟩:=hp
 refine aY 4 [] ?_
 refine bT ?_
 exact ⟨nC hta1 hte1 htr1 hdr hv rG,rfl⟩
theorem SU (G:Imm) (a:Option Addr) (ca:Nat) (la:List U32) (B:Int) (ha:Arr G a la) (da:Lims la) (h1:la.length≤1073741824) (hB:0<B) (hB2:B<4294967296) :
 Does Tryz.prog 198 [.slice a la.length ca,.int .u32 B] G [] (fun v G' Ho=>∃ r q m,v=.tuple #[r,.int .u32 m,.int .i64 0]∧Nat32 G' r q la.length∧rI la=q*B+m∧0≤m∧m<B∧Ho=[]):=by
 refine D0 Tryz.func198 Tryz.ntmps198 fun w=>?_
 refine aM 21 [0] ?_
 refine gT (α:=U32) 0 rfl T.sl87 T.el166 rfl rfl rG rG fun b1=>?_
 refine bR 18 [] ?_
 obtain ⟨N,hN⟩:∃ N,N=la.length:=⟨_,rfl⟩
 have hM:(la.length:Int).toNat=N:=rG
 rw [hM]
 have hown:∀ r:List U32,r.length=N→OwnA (some ⟨b1,0,none⟩) N r []:=fun r hr=>.inr ⟨b1,rfl,by rw [hr];rfl,by omega,by simp only [maxLen];omega⟩
 refine iP 7 rfl (show _=Value.slice (some ⟨b1,0,none⟩) (List.replicate N (default:U32)).length N by rw [aE]) ?_
 refine fS (ι:=Nat×Int×List U32) (fun (k,r,q)=>([(9,.int .i64 ((k:Int) - 1)),(8,.int .u64 r),(7,.slice (some ⟨b1,0,none⟩) q.length N),(6,.int .i64 0),(5,.int .u32 0),(4,.slice none 0 0),(0,.slice a (List.length la) ca),(1,.int .u32 B)],[(0,some b1,rV 166 q [])])) (fun (k,r,q)=>k≤la.length∧q.length=N∧Lims q∧0≤r∧r<B∧rI (la.drop k)=rI (q.drop k)*B+r) (fun (k,r,q)=>k) ((la.length,0,List.replicate N (default:U32))) (⟨aH _,aE,mU N,by decide,hB,by rw [eC (aH _),eC Hh,sH,gA];rfl⟩) fun ⟨k,r,q⟩=>fun hk=>?_
 obtain ⟨hk1,hqN,hdq,hr0,hr1,hv⟩:=hk
 have hoq:=hown q hqN
 rcases eQ k with rfl | hpos
 · rw [jE,jE] at hv
   refine aM 16 [0] ?_
   refine cN 0 rfl hoq fun G9 hle9 hA=>?_
   refine bU 1 rfl (Fv _ _ _ _ rH rG tU) fun v1 G1 Ho1 hle1 hp=>?_
   obtain ⟨ta1,tm1,rfl,hta1,hte1,htr1,htl1,rfl,rfl⟩:=hp
   refine aA 1 [] ?_
   refine aN (gB rfl T.u166 rfl rG) ?_
   refine aY 6 [] ?_
   refine Ar.e3 ?_
   exact ⟨_,_,_,rfl,nC hta1 hte1 htr1 hdq rfl rG,hv,hr0,hr1,rfl⟩
 obtain ⟨i,rfl⟩:∃ i,k=i+1:=⟨k - 1,by omega⟩
 have hai:=xP da (show i<la.length by omega)
 have ei:(((i+1:Nat):Int) - 1).toNat=i:=rG
 have eA:(la[(((i+1:Nat):Int) - 1).toNat]?.getD default).v=lg la i:=by unfold lg;rw [ei,aF]
 have hsl:=Yx ⟨hr0,hr1⟩ hai
 have hsl':0≤(r*4294967296+(la[(((i+1:Nat):Int) - 1).toNat]?.getD default).v) / B∧(r*4294967296+(la[(((i+1:Nat):Int) - 1).toNat]?.getD default).v) / B≤4294967295:=by
  rw [eA]
  exact ⟨hsl.1,by have:=hsl.2;omega⟩
 have hrm:0≤(r*4294967296+lg la i) % B∧(r*4294967296+lg la i) % B<B:=⟨hJ _ rG,dX _ hB⟩
 refine aM 15 [1] ?_
 refine aN (qO rfl rfl rG) ?_
 refine aA 2 [] ?_
 refine dI (α:=U32) T.sl87 ?_
 refine fJ 0 T.one166 ?_
 refine aN (bZ rfl T.u165 rfl rG) ?_
 refine aN (Ch rfl rfl rG rG) ?_
 refine aL 9 [] ?_
 refine aN (bZ rfl T.u165 rfl rG) ?_
 refine aN (nN rfl rfl rG) ?_
 refine aN (gB rfl T.u166 rfl rG) ?_
 refine fP (α:=U32) T.sl87 ?_
 refine eT (z:=_) 0 T.size166 rfl rfl rfl rH rG rfl fun ho1=>?_
 refine aL 5 [] ?_
 refine aN (bZ rfl T.u165 rfl rG) ?_
 refine aN (jA rfl rfl rG) ?_
 refine aY 9 [] ?_
 rw [eA]
 refine dC 9 rfl (show _=Value.int .i64 ((i:Int) - 1) by congr 1;omega) ?_
 refine iD 0 (rV 166 (q.set i ⟨(r*4294967296+lg la i) / B⟩) []) rfl (by rw [ei]) ?_
 refine dC 7 rfl (show _=Value.slice (some ⟨b1,0,none⟩) (q.set i ⟨(r*4294967296+lg la i) / B⟩).length N by rw [aG]) ?_
 refine cP ((i,(r*4294967296+lg la i) % B,q.set i ⟨(r*4294967296+lg la i) / B⟩)) ?_ ?_
 · exact ⟨by omega,by rw [aG];exact hqN,sE hdq _ hsl,hrm.1,hrm.2,Qd rG rG hv⟩
 show i<i+1
 omega
end
theorem Vm {r s:List U32} {i:Nat} (h:s.drop i=r.drop i):lg s i=lg r i:=by
 have e:s[i]?=r[i]?:=by
  have:=congrArg (·[0]?) h
  simpa [eR] using this
 unfold lg;rw [aF,e]
theorem uK {r s:List U32} {i:Nat} (h:s.drop i=r.drop i) (d:U32):(s.set i d).drop (i+1)=r.drop (i+1):=by
 rw [nH rG,←mE,←mE,h]
section
attribute [local irreducible] rI pb sB
theorem SW (G:Imm) (b:Nat) (p u q:List U32) (junk:List Value) (cw:Nat) (v:Option Addr) (cv:Nat) (lv:List U32) (t:Int) (hv:Arr G v lv) (du:Lims u) (dv:Lims lv) (h1:u.length≤1073741824) (h2:lv.length<u.length) (ht:0≤t∧t<4294967296) :
 Does Tryz.prog 247 [.slice (some ⟨b,p.length,none⟩) u.length cw,.slice v lv.length cv,.int .u64 t] G [(0,some b,rV 166 (p++(u++q)) junk)] (fun r G' Ho=>∃ (w:List U32) (o:Int),r=.bool (decide (0<o))∧Ho=[(0,some b,rV 166 (p++(w++q)) junk)]∧G'=G∧(o=0∨o=1)∧w.length=u.length∧Lims w∧rI u - t*rI lv=rI w - pb u.length*o):=by
 refine D0 Tryz.func247 Tryz.ntmps247 fun w=>?_
 refine cJ 20 [] ?_
 refine fS (ι:=Nat×Int×Int×List U32) (fun (i,c,o,w)=>([(13,.int .i64 (i:Int)),(7,.int .u64 c),(8,.int .u64 o),(12,.int .i64 (u.length:Int)),(6,.bool Bool.false),(0,.slice (some (Addr.mk b (List.length p) none)) (List.length u) cw),(1,.slice v (List.length lv) cv),(2,.int .u64 t)],[(0,some b,rV 166 (p++(w++q)) junk)])) (fun (i,c,o,w)=>i≤u.length∧w.length=u.length∧Lims w∧0≤c∧c<4294967296∧0≤o∧o≤1∧(lv.length<i→c=0)∧w.drop i=u.drop i∧rI (u.take i) - t*rI (lv.take i)=rI (w.take i) - pb i*(o+c)) (fun (i,c,o,w)=>u.length - i) ((0,0,0,u)) (⟨aT _,rfl,du,by decide,by decide,by decide,by decide,fun _=>rfl,rfl,by rw [bQ,bQ,sH,cC,dB,cC]⟩) fun ⟨i,c,o,w⟩=>fun hk=>?_
 obtain ⟨hi,hwn,hdw,hc0,hc1,ho0,ho1,hcz,hdrop,hval⟩:=hk
 rcases aJ i u.length with hia | hia
 · have hx:0≤(w[(i:Int).toNat]?.getD default).v∧(w[(i:Int).toNat]?.getD default).v<4294967296:=xP hdw rG
   have ex:(w[(i:Int).toNat]?.getD default).v=lg u i:=Vm hdrop
   rcases aJ i lv.length with hib | hib
   · have hy:0≤(lv[(i:Int).toNat]?.getD default).v∧(lv[(i:Int).toNat]?.getD default).v<4294967296:=xP dv hib
     have hca:=Tj ⟨hc0,hc1⟩ hy ht
     have hm:0≤(lv[(i:Int).toNat]?.getD default).v*t∧(lv[(i:Int).toNat]?.getD default).v*t≤18446744073709551615:=rG
     by_cases hlt:(w[((i:Nat):Int).toNat]?.getD default).v<(c+(lv[((i:Nat):Int).toNat]?.getD default).v*t) % 4294967296
     · refine aM 31 [1,1] ?_
       refine dI (α:=U32) T.sl87 ?_
       refine fJ 0 T.one166 ?_
       refine aN (bZ rfl T.u165 rfl rG) ?_
       refine aA 1 [] ?_
       refine aN (mS rfl rfl tU) ?_
       refine aN (fV rfl rfl rG) ?_
       refine aL 7 [] ?_
       refine aN (dF T.sl87 rfl rfl rG) ?_
       refine aN (kI 0 T.one166 rfl rfl rG) ?_
       refine aN (bZ rfl T.u165 rfl rG) ?_
       refine aA 1 [] ?_
       refine aN (oP rfl rfl rG) ?_
       refine aN (pL rfl rfl rG) ?_
       refine aA 1 [] ?_
       refine aN (iR rfl rfl rG) ?_
       refine aL 6 [] ?_
       refine aN (eY rfl rfl rG) ?_
       refine aL 8 [] ?_
       refine aN (gG rfl T.u166 rfl) ?_
       refine aN (dF T.sl87 rfl rfl rG) ?_
       refine oW 0 T.size166 rfl rfl rfl rG ?_
       refine aL 4 [] ?_
       refine aN (eY rfl rfl rG) ?_
       refine aN (nI rfl rfl rG) ?_
       refine aY 8 [] ?_
       have es:((w[(i:Int).toNat]?.getD default).v - (c+(lv[(i:Int).toNat]?.getD default).v*t) % 4294967296+18446744073709551616 - o) % 4294967296=((w[(i:Int).toNat]?.getD default).v - (c+(lv[(i:Int).toNat]?.getD default).v*t) % 4294967296 - o+4294967296*1):=rG
       have ec:((w[(i:Int).toNat]?.getD default).v - (c+(lv[(i:Int).toNat]?.getD default).v*t) % 4294967296+18446744073709551616 - o) / 4294967296 % 2=1:=rG
       refine dC 8 rfl (show _=Value.int .u64 1 by rw [ec]) ?_
       refine iD 0 (rV 166 (p++(w.set i (⟨((w[(i:Int).toNat]?.getD default).v - (c+(lv[(i:Int).toNat]?.getD default).v*t) % 4294967296 - o+4294967296*1)⟩:U32)++q)) junk) rfl Lj ?_
       refine cP ((i+1,(c+(lv[(i:Int).toNat]?.getD default).v*t) / 4294967296,1,w.set i (⟨((w[(i:Int).toNat]?.getD default).v - (c+(lv[(i:Int).toNat]?.getD default).v*t) % 4294967296 - o+4294967296*1)⟩:U32))) ?_ ?_
       · exact ⟨by omega,by rw [aG];exact hwn,sE hdw _ rG,by omega,by omega,by decide,by decide,by omega,uK hdrop _,wS (c':=(c+(lv[(i:Int).toNat]?.getD default).v*t)) (b:=o) (b':=1) rG hval (by rfl) (by rw [←ex])⟩
       show u.length - (i+1)<u.length - i
       omega
     by_cases hlt2:(w[((i:Nat):Int).toNat]?.getD default).v - (c+(lv[((i:Nat):Int).toNat]?.getD default).v*t) % 4294967296<o
     · refine aM 31 [1,1] ?_
       refine dI (α:=U32) T.sl87 ?_
       refine fJ 0 T.one166 ?_
       refine aN (bZ rfl T.u165 rfl rG) ?_
       refine aA 1 [] ?_
       refine aN (mS rfl rfl tU) ?_
       refine aN (fV rfl rfl rG) ?_
       refine aL 7 [] ?_
       refine aN (dF T.sl87 rfl rfl rG) ?_
       refine aN (kI 0 T.one166 rfl rfl rG) ?_
       refine aN (bZ rfl T.u165 rfl rG) ?_
       refine aA 1 [] ?_
       refine aN (oP rfl rfl rG) ?_
       refine aN (iR rfl rfl rG) ?_
       refine aA 1 [] ?_
       refine aN (pL rfl rfl rG) ?_
       refine aL 6 [] ?_
       refine aN (eY rfl rfl rG) ?_
       refine aL 8 [] ?_
       refine aN (gG rfl T.u166 rfl) ?_
       refine aN (dF T.sl87 rfl rfl rG) ?_
       refine oW 0 T.size166 rfl rfl rfl rG ?_
       refine aL 4 [] ?_
       refine aN (eY rfl rfl rG) ?_
       refine aN (nI rfl rfl rG) ?_
       refine aY 8 [] ?_
       have es:((w[(i:Int).toNat]?.getD default).v - (c+(lv[(i:Int).toNat]?.getD default).v*t) % 4294967296 - o+18446744073709551616) % 4294967296=((w[(i:Int).toNat]?.getD default).v - (c+(lv[(i:Int).toNat]?.getD default).v*t) % 4294967296 - o+4294967296*1):=rG
       have ec:((w[(i:Int).toNat]?.getD default).v - (c+(lv[(i:Int).toNat]?.getD default).v*t) % 4294967296 - o+18446744073709551616) / 4294967296 % 2=1:=rG
       refine dC 8 rfl (show _=Value.int .u64 1 by rw [ec]) ?_
       refine iD 0 (rV 166 (p++(w.set i (⟨((w[(i:Int).toNat]?.getD default).v - (c+(lv[(i:Int).toNat]?.getD default).v*t) % 4294967296 - o+4294967296*1)⟩:U32)++q)) junk) rfl Lj ?_
       refine cP ((i+1,(c+(lv[(i:Int).toNat]?.getD default).v*t) / 4294967296,1,w.set i (⟨((w[(i:Int).toNat]?.getD default).v - (c+(lv[(i:Int).toNat]?.getD default).v*t) % 4294967296 - o+4294967296*1)⟩:U32))) ?_ ?_
       · exact ⟨by omega,by rw [aG];exact hwn,sE hdw _ rG,by omega,by omega,by decide,by decide,by omega,uK hdrop _,wS (c':=(c+(lv[(i:Int).toNat]?.getD default).v*t)) (b:=o) (b':=1) rG hval (by rfl) (by rw [←ex])⟩
       show u.length - (i+1)<u.length - i
       omega
     refine aM 31 [1,1] ?_
     refine dI (α:=U32) T.sl87 ?_
     refine fJ 0 T.one166 ?_
     refine aN (bZ rfl T.u165 rfl rG) ?_
     refine aA 1 [] ?_
     refine aN (mS rfl rfl tU) ?_
     refine aN (fV rfl rfl rG) ?_
     refine aL 7 [] ?_
     refine aN (dF T.sl87 rfl rfl rG) ?_
     refine aN (kI 0 T.one166 rfl rfl rG) ?_
     refine aN (bZ rfl T.u165 rfl rG) ?_
     refine aA 1 [] ?_
     refine aN (oP rfl rfl rG) ?_
     refine aN (iR rfl rfl rG) ?_
     refine aA 1 [] ?_
     refine aN (iR rfl rfl rG) ?_
     refine aL 6 [] ?_
     refine aN (eY rfl rfl rG) ?_
     refine aL 8 [] ?_
     refine aN (gB rfl T.u166 rfl rG) ?_
     refine aN (dF T.sl87 rfl rfl rG) ?_
     refine oW 0 T.size166 rfl rfl rfl rG ?_
     refine aL 4 [] ?_
     refine aN (eY rfl rfl rG) ?_
     refine aN (nI rfl rfl rG) ?_
     refine aY 8 [] ?_
     have es:((w[(i:Int).toNat]?.getD default).v - (c+(lv[(i:Int).toNat]?.getD default).v*t) % 4294967296 - o)=((w[(i:Int).toNat]?.getD default).v - (c+(lv[(i:Int).toNat]?.getD default).v*t) % 4294967296 - o+4294967296*0):=rG
     have ec:((w[(i:Int).toNat]?.getD default).v - (c+(lv[(i:Int).toNat]?.getD default).v*t) % 4294967296 - o) / 4294967296 % 2=0:=rG
     refine dC 8 rfl (show _=Value.int .u64 0 by rw [ec]) ?_
     refine iD 0 (rV 166 (p++(w.set i (⟨((w[(i:Int).toNat]?.getD default).v - (c+(lv[(i:Int).toNat]?.getD default).v*t) % 4294967296 - o+4294967296*0)⟩:U32)++q)) junk) rfl Lj ?_
     refine cP ((i+1,(c+(lv[(i:Int).toNat]?.getD default).v*t) / 4294967296,0,w.set i (⟨((w[(i:Int).toNat]?.getD default).v - (c+(lv[(i:Int).toNat]?.getD default).v*t) % 4294967296 - o+4294967296*0)⟩:U32))) ?_ ?_
     · exact ⟨by omega,by rw [aG];exact hwn,sE hdw _ rG,by omega,by omega,by decide,by decide,by omega,uK hdrop _,wS (c':=(c+(lv[(i:Int).toNat]?.getD default).v*t)) (b:=o) (b':=0) rG hval (by rfl) (by rw [←ex])⟩
     show u.length - (i+1)<u.length - i
     omega
   have z:=zJ hib
   by_cases hlt:(w[((i:Nat):Int).toNat]?.getD default).v<(c) % 4294967296
   · refine aM 33 [1,0] ?_
     refine aN (dF T.sl87 rfl rfl rG) ?_
     refine aN (kI 0 T.one166 rfl rfl rG) ?_
     refine aN (bZ rfl T.u165 rfl rG) ?_
     refine aA 1 [] ?_
     refine aN (oP rfl rfl rG) ?_
     refine aN (pL rfl rfl rG) ?_
     refine aA 1 [] ?_
     refine aN (iR rfl rfl rG) ?_
     refine aL 6 [] ?_
     refine aN (eY rfl rfl rG) ?_
     refine aL 8 [] ?_
     refine aN (gG rfl T.u166 rfl) ?_
     refine aN (dF T.sl87 rfl rfl rG) ?_
     refine oW 0 T.size166 rfl rfl rfl rG ?_
     refine aL 4 [] ?_
     refine aN (eY rfl rfl rG) ?_
     refine aN (nI rfl rfl rG) ?_
     refine aY 8 [] ?_
     have es:((w[(i:Int).toNat]?.getD default).v - (c) % 4294967296+18446744073709551616 - o) % 4294967296=((w[(i:Int).toNat]?.getD default).v - (c) % 4294967296 - o+4294967296*1):=rG
     have ec:((w[(i:Int).toNat]?.getD default).v - (c) % 4294967296+18446744073709551616 - o) / 4294967296 % 2=1:=rG
     refine dC 8 rfl (show _=Value.int .u64 1 by rw [ec]) ?_
     refine iD 0 (rV 166 (p++(w.set i (⟨((w[(i:Int).toNat]?.getD default).v - (c) % 4294967296 - o+4294967296*1)⟩:U32)++q)) junk) rfl Lj ?_
     refine cP ((i+1,(c) / 4294967296,1,w.set i (⟨((w[(i:Int).toNat]?.getD default).v - (c) % 4294967296 - o+4294967296*1)⟩:U32))) ?_ ?_
     · exact ⟨by omega,by rw [aG];exact hwn,sE hdw _ rG,by omega,by omega,by decide,by decide,by intro _;omega,uK hdrop _,wS (c':=(c)) (b:=o) (b':=1) rG hval BC (by rw [←ex])⟩
     show u.length - (i+1)<u.length - i
     omega
   by_cases hlt2:(w[((i:Nat):Int).toNat]?.getD default).v - (c) % 4294967296<o
   · refine aM 33 [1,0] ?_
     refine aN (dF T.sl87 rfl rfl rG) ?_
     refine aN (kI 0 T.one166 rfl rfl rG) ?_
     refine aN (bZ rfl T.u165 rfl rG) ?_
     refine aA 1 [] ?_
     refine aN (oP rfl rfl rG) ?_
     refine aN (iR rfl rfl rG) ?_
     refine aA 1 [] ?_
     refine aN (pL rfl rfl rG) ?_
     refine aL 6 [] ?_
     refine aN (eY rfl rfl rG) ?_
     refine aL 8 [] ?_
     refine aN (gG rfl T.u166 rfl) ?_
     refine aN (dF T.sl87 rfl rfl rG) ?_
     refine oW 0 T.size166 rfl rfl rfl rG ?_
     refine aL 4 [] ?_
     refine aN (eY rfl rfl rG) ?_
     refine aN (nI rfl rfl rG) ?_
     refine aY 8 [] ?_
     have es:((w[(i:Int).toNat]?.getD default).v - (c) % 4294967296 - o+18446744073709551616) % 4294967296=((w[(i:Int).toNat]?.getD default).v - (c) % 4294967296 - o+4294967296*1):=rG
     have ec:((w[(i:Int).toNat]?.getD default).v - (c) % 4294967296 - o+18446744073709551616) / 4294967296 % 2=1:=rG
     refine dC 8 rfl (show _=Value.int .u64 1 by rw [ec]) ?_
     refine iD 0 (rV 166 (p++(w.set i (⟨((w[(i:Int).toNat]?.getD default).v - (c) % 4294967296 - o+4294967296*1)⟩:U32)++q)) junk) rfl Lj ?_
     refine cP ((i+1,(c) / 4294967296,1,w.set i (⟨((w[(i:Int).toNat]?.getD default).v - (c) % 4294967296 - o+4294967296*1)⟩:U32))) ?_ ?_
     · exact ⟨by omega,by rw [aG];exact hwn,sE hdw _ rG,by omega,by omega,by decide,by decide,by intro _;omega,uK hdrop _,wS (c':=(c)) (b:=o) (b':=1) rG hval BC (by rw [←ex])⟩
     show u.length - (i+1)<u.length - i
     omega
   refine aM 33 [1,0] ?_
   refine aN (dF T.sl87 rfl rfl rG) ?_
   refine aN (kI 0 T.one166 rfl rfl rG) ?_
   refine aN (bZ rfl T.u165 rfl rG) ?_
   refine aA 1 [] ?_
   refine aN (oP rfl rfl rG) ?_
   refine aN (iR rfl rfl rG) ?_
   refine aA 1 [] ?_
   refine aN (iR rfl rfl rG) ?_
   refine aL 6 [] ?_
   refine aN (eY rfl rfl rG) ?_
   refine aL 8 [] ?_
   refine aN (gB rfl T.u166 rfl rG) ?_
   refine aN (dF T.sl87 rfl rfl rG) ?_
   refine oW 0 T.size166 rfl rfl rfl rG ?_
   refine aL 4 [] ?_
   refine aN (eY rfl rfl rG) ?_
   refine aN (nI rfl rfl rG) ?_
   refine aY 8 [] ?_
   have es:((w[(i:Int).toNat]?.getD default).v - (c) % 4294967296 - o)=((w[(i:Int).toNat]?.getD default).v - (c) % 4294967296 - o+4294967296*0):=rG
   have ec:((w[(i:Int).toNat]?.getD default).v - (c) % 4294967296 - o) / 4294967296 % 2=0:=rG
   refine dC 8 rfl (show _=Value.int .u64 0 by rw [ec]) ?_
   refine iD 0 (rV 166 (p++(w.set i (⟨((w[(i:Int).toNat]?.getD default).v - (c) % 4294967296 - o+4294967296*0)⟩:U32)++q)) junk) rfl Lj ?_
   refine cP ((i+1,(c) / 4294967296,0,w.set i (⟨((w[(i:Int).toNat]?.getD default).v - (c) % 4294967296 - o+4294967296*0)⟩:U32))) ?_ ?_
   · exact ⟨by omega,by rw [aG];exact hwn,sE hdw _ rG,by omega,by omega,by decide,by decide,by intro _;omega,uK hdrop _,wS (c':=(c)) (b:=o) (b':=0) rG hval BC (by rw [←ex])⟩
   show u.length - (i+1)<u.length - i
   omega
 have hii:i=u.length:=rG
 subst hii
 have hc:=hcz rG
 subst hc
 refine bG 20 [0] ?_
 refine pJ [0] ?_
 rw [rQ (aH _),rQ rG,rQ rG,dB] at hval
 exact ⟨w,o,rfl,rfl,rfl,by omega,hwn,hdw,hval⟩
end
theorem CZ {u v:List U32} {m:Nat} (hu:u.length=m+3) (hv:v.length=m+2) (du:Lims u) (dv:Lims v) (h:rI u<4294967296*rI v):lg u (m+2)*4294967296+lg u (m+1)<lg v (m+1)*4294967296+4294967296:=by
 have e1:=IK hu
 have e2:=CQ hv
 have e3:=vH dv (show m≤v.length by omega)
 have e4:=vH du (show m≤u.length by omega)
 have a0:=tN dv m
 have b0:=tN du m
 have hp:=vG m
 generalize lg u (m+2)*4294967296+lg u (m+1)=high at *
 generalize lg v (m+1)=v1 at *
 generalize lg v m=v0 at *
 generalize lg u m=u0 at *
 refine nY (a:=pb m*4294967296) ?_ rG
 have f1:=aW (show v0+4294967296*v1+1≤v1*4294967296+4294967296 by omega) (bK hp)
 have f2:=jF (bK hp) b0.1
 rw [bI,fL] at f1
 rw [bI,←bM] at e1
 have f3:pb m*4294967296*(v1*4294967296+4294967296)=4294967296*(pb m*(v1*4294967296+4294967296)):=by rw [cI (pb m) 4294967296,bM]
 rw [f3]
 omega
section
attribute [local irreducible] rI pb sB
theorem SX (G:Imm) (b:Nat) (p u q:List U32) (junk:List Value) (cw:Nat) (v:Option Addr) (cv:Nat) (lv:List U32) (m:Nat) (hv:Arr G v lv) (du:Lims u) (dv:Lims lv) (h1:u.length≤1073741824) (hu:u.length=m+3) (hl:lv.length=m+2) (htop:2147483648≤lg lv (m+1)) (hlt:rI u<4294967296*rI lv) :
 Does Tryz.prog 203 [.slice (some ⟨b,p.length,none⟩) u.length cw,.slice v lv.length cv] G [(0,some b,rV 166 (p++(u++q)) junk)] (fun r G' Ho=>∃ (w:List U32) (g:Int),r=.int .u32 g∧Ho=[(0,some b,rV 166 (p++(w++q)) junk)]∧G'=G∧0≤g∧g<4294967296∧w.length=u.length∧Lims w∧rI w=rI u - g*rI lv∧rI w<rI lv):=by
 have hU2:=tN du (m+2)
 have hU1:=tN du (m+1)
 have hU0:=tN du m
 have hV1:=tN dv (m+1)
 have hV0:=tN dv m
 have eu2:(u[((lv.length:Nat):Int).toNat]?.getD default).v=lg u (m+2):=by unfold lg;rw [hl]
 have eu1:(u[(((lv.length:Nat):Int) - 1).toNat]?.getD default).v=lg u (m+1):=by unfold lg;rw [show (((lv.length:Nat):Int) - 1).toNat=((m+1:Nat):Int).toNat by omega]
 have eu0:(u[(((lv.length:Nat):Int) - 2).toNat]?.getD default).v=lg u m:=by unfold lg;rw [show (((lv.length:Nat):Int) - 2).toNat=(m:Int).toNat by omega]
 have ev1:(lv[(((lv.length:Nat):Int) - 1).toNat]?.getD default).v=lg lv (m+1):=by unfold lg;rw [show (((lv.length:Nat):Int) - 1).toNat=((m+1:Nat):Int).toNat by omega]
 have ev0:(lv[(((lv.length:Nat):Int) - 2).toNat]?.getD default).v=lg lv m:=by unfold lg;rw [show (((lv.length:Nat):Int) - 2).toNat=(m:Int).toNat by omega]
 refine D0 Tryz.func203 Tryz.ntmps203 fun w=>?_
 have hp1:0<lg lv (m+1):=rG
 obtain ⟨high,hhigh⟩:∃ high,high=lg u (m+2)*4294967296+lg u (m+1):=⟨_,rfl⟩
 obtain ⟨hk1,hk2,hk3,hk4,hk5⟩:=CR hu hl du dv hhigh hp1 rfl rfl
 have hq:=Int.ediv_le_self (lg lv (m+1)) (show 0≤high by omega)
 have hVm:0<rI lv:=by
  have:=CQ hl
  have h3:=vH dv (show m≤lv.length by omega)
  have h4:=Int.mul_pos (vG m) (show 0<lg lv m+4294967296*lg lv (m+1) by omega)
  omega
 have hUp:rI u<4294967296*rI lv:=hlt
 have hbrk:high<lg lv (m+1)*4294967296+4294967296:=hhigh▸CZ hu hl du dv hlt
 refine cJ 5 [] ?_
 refine Wc.scope ?_
 refine cJ 8 [] ?_
 refine dT [0] [] T.mixed [[0],[1]] ?_
 refine gR 2 [] rfl (dF T.sl87 rfl rfl rG) ?_
 refine gR 3 [0] rfl (kI 0 T.one166 rfl rfl rG) ?_
 refine gR 4 [] rfl (bZ rfl T.u165 rfl rG) ?_
 refine gR 5 [] rfl (qO rfl rfl rG) ?_
 refine eD [[6],[7],[8]] ?_
 refine gR 9 [] rfl (dF T.sl87 rfl rfl rG) ?_
 refine gR 10 [0] rfl (kI 0 T.one166 rfl rfl rG) ?_
 refine gR 11 [] rfl (bZ rfl T.u165 rfl rG) ?_
 refine gR 12 [] rfl (Ch rfl rfl rG rG) ?_
 refine eD [[13]] ?_
 refine dY ?_
 refine cB ?_
 refine pT (ι:=Int×Int) (fun (g,r)=>([(0,.slice (some ⟨b,p.length,none⟩) u.length cw),(1,.slice v lv.length cv),(5,.int .i64 (lv.length:Int)),(7,.int .u64 g),(8,.int .u64 r),(4,.int .u32 0)],[(0,some b,rV 166 (p++(u++q)) junk)])) (fun (g,r)=>g*lg lv (m+1)+r=high∧0≤g∧g≤18446744073709551615∧0≤r∧r<4294967296∧rI u<(g+1)*rI lv) ?_ fun ⟨g,r⟩=>fun (hk:g*lg lv (m+1)+r=high∧0≤g∧g≤18446744073709551615∧0≤r∧r<4294967296∧rI u<(g+1)*rI lv)=>?_
 · refine dT [0] [] T.mixed [[0],[1],[2],[3]] ?_
   refine iM (α:=U32) 4 T.sl87 ?_
   refine nW 5 [0] 0 T.one166 ?_
   refine gR 6 [] rfl (bZ rfl T.u165 rfl rG) ?_
   refine gR 7 [] rfl (nN rfl rfl rG) ?_
   refine eD [[8],[9],[10],[11]] ?_
   refine iM (α:=U32) 12 T.sl87 ?_
   refine nW 13 [0] 0 T.one166 ?_
   refine gR 14 [] rfl (bZ rfl T.u165 rfl rG) ?_
   refine gR 15 [] rfl (jA rfl rfl rG) ?_
   refine eD [[16],[17]] ?_
   refine dY ?_
   refine dC 7 rfl (show _=Value.int .u64 (high / lg lv (m+1)) by rw [eu2,eu1,ev1,hhigh]) ?_
   refine dC 8 rfl (show _=Value.int .u64 (high % lg lv (m+1)) by rw [eu2,eu1,ev1,hhigh]) ?_
   refine qX ((high / lg lv (m+1),high % lg lv (m+1))) ?_
   exact ⟨hk1,hk2,by omega,hk3,by omega,hk5⟩
 obtain ⟨hg1,hg2,hg3,hr1,hr2,hgu⟩:=hk
 clear hk1 hk2 hk3 hk4 hk5 hq
 refine cJ 3 [] ?_
 refine pT (ι:=Int) (fun gg=>([(0,.slice (some ⟨b,p.length,none⟩) u.length cw),(1,.slice v lv.length cv),(5,.int .i64 (lv.length:Int)),(7,.int .u64 gg),(4,.int .u32 0)],[(0,some b,rV 166 (p++(u++q)) junk)])) (fun gg=>0≤gg∧gg<4294967296∧rI u<(gg+1)*rI lv∧(gg - 1)*rI lv≤rI u) ?_ fun gg=>fun (hk:0≤gg∧gg<4294967296∧rI u<(gg+1)*rI lv∧(gg - 1)*rI lv≤rI u)=>?_
 · refine Wc.block ?_
   refine fS (ι:=Int×Int) (fun (g,r)=>([(7,.int .u64 g),(8,.int .u64 r),(0,.slice (some (Addr.mk b (List.length p) none)) (List.length u) cw),(1,.slice v (List.length lv) cv),(5,.int .i64 (lv.length:Int)),(4,.int .u32 0)],[(0,some b,rV 166 (p++(u++q)) junk)])) (fun (g,r)=>g*lg lv (m+1)+r=high∧0≤g∧g≤18446744073709551615∧0≤r∧r<4294967296∧rI u<(g+1)*rI lv) (fun (g,r)=>(4294967296 - r).toNat) ((g,r)) (⟨hg1,hg2,hg3,hr1,hr2,hgu⟩) fun ⟨g,r⟩=>fun (hk:g*lg lv (m+1)+r=high∧0≤g∧g≤18446744073709551615∧0≤r∧r<4294967296∧rI u<(g+1)*rI lv)=>?_
   clear hg1 hg2 hg3 hr1 hr2 hgu
   obtain ⟨hg1,hg2,hg3,hr1,hr2,hgu⟩:=hk
   have dec:4294967296≤g∨r*4294967296+lg u m<g*lg lv m→1≤g∧(g - 1)*lg lv (m+1)+(r+lg lv (m+1))=high∧rI u<(g - 1+1)*rI lv:=fun hd=>by
    have hg0:1≤g:=by
     rcases hd with hd | hd
     · omega
     rcases (show g=0∨1≤g by omega) with h | h
     · rw [h,gA] at hd;omega
     exact h
    refine ⟨hg0,by rw [oF,fB];omega,?_⟩
    rw [show g - 1+1=g by omega]
    rcases hd with hd | hd
    · have:=cX hd (bK hVm)
      omega
    exact LX hu hl du dv hhigh hg1 hg2 hd
   have brk:(g - 1)*lg lv (m+1)+(r+lg lv (m+1))=high→rI u<(g - 1+1)*rI lv→4294967296≤r+lg lv (m+1)→1≤g→0≤g - 1∧g - 1<4294967296∧rI u<(g - 1+1)*rI lv∧(g - 1 - 1)*rI lv≤rI u:=fun h h2 h3 h4=>by
    have hlt':=CO h h3 hp1 hbrk
    have hm0:=yN ⟨(show 0≤g - 1 by omega),hlt'⟩ hV0
    exact ⟨by omega,hlt',h2,CS hu hl du dv hhigh h ⟨by omega,hlt'⟩ rG rG⟩
   by_cases hgb:g<4294967296
   · have hm0:=yN ⟨hg2,hgb⟩ hV0
     have hm:0≤g*(lv[(((lv.length:Nat):Int) - 2).toNat]?.getD default).v∧g*(lv[(((lv.length:Nat):Int) - 2).toNat]?.getD default).v≤18446744073709551615:=by rw [ev0];omega
     by_cases hcond:r*4294967296+lg u m<g*lg lv m
     · obtain ⟨hg0,hnx,hnu⟩:=dec (.inr hcond)
       have hcond':r*4294967296+(u[(((lv.length:Nat):Int) - 2).toNat]?.getD default).v<g*(lv[(((lv.length:Nat):Int) - 2).toNat]?.getD default).v:=by rw [eu0,ev0];exact hcond
       refine cJ 2 [] ?_
       refine dT [0] [] T.mixed [[0]] ?_
       refine gR 1 [] rfl (eY rfl rfl rG) ?_
       refine eD [[2],[3]] ?_
       refine BO 45 rfl tU ?_
       refine eD [[4],[5],[6],[7]] ?_
       refine pC 8 [] rfl (qP (α:=U32) T.sl87 rfl rfl rH rG) ?_
       refine pC 9 [0] rfl (eS T.one166 rfl (kZ rH rG 0 rfl rfl)) ?_
       refine pC 10 [] rfl (bZ rfl T.u165 rfl rG) ?_
       refine pC 11 [] rfl (mS rfl rfl tU) ?_
       refine eD [[12]] ?_
       refine pC 13 [] rfl (qO rfl rfl rG) ?_
       refine eD [[14],[15],[16]] ?_
       refine pC 17 [] rfl (dF T.sl87 rfl rfl rG) ?_
       refine pC 18 [0] rfl (kI 0 T.one166 rfl rfl rG) ?_
       refine pC 19 [] rfl (bZ rfl T.u165 rfl rG) ?_
       refine pC 20 [] rfl (Ch rfl rfl rG rG) ?_
       refine eD [[21],[22]] ?_
       refine dY ?_
       refine Ar.gl 8 [1] ?_
       refine aN (iR rfl rfl rG) ?_
       refine aL 9 [] ?_
       refine dI (α:=U32) T.sl87 ?_
       refine fJ 0 T.one166 ?_
       refine aN (bZ rfl T.u165 rfl rG) ?_
       refine aN (fV rfl rfl rG) ?_
       refine aL 6 [] ?_
       refine aN (eY rfl rfl rG) ?_
       refine bR 3 [] ?_
       refine dL (fun hc1=>?_) fun hc1=>?_
       refine bG 4 [] ?_
       rotate_left
       refine bG 2 [] ?_
       rotate_left
       · refine dC 7 rfl rfl ?_
         refine qX (g - 1) ?_
         exact brk hnx hnu (by rw [←ev1];omega) hg0
       refine dC 8 rfl (show _=Value.int .u64 (r+lg lv (m+1)) by rw [ev1]) ?_
       refine cP ((g - 1,r+lg lv (m+1))) ?_ ?_
       · exact ⟨hnx,by omega,by omega,by omega,by rw [←ev1];omega,hnu⟩
       show (4294967296 - (r+lg lv (m+1))).toNat<(4294967296 - r).toNat
       omega
     have hcond':¬r*4294967296+(u[(((lv.length:Nat):Int) - 2).toNat]?.getD default).v<g*(lv[(((lv.length:Nat):Int) - 2).toNat]?.getD default).v:=by rw [eu0,ev0];exact hcond
     refine cJ 2 [] ?_
     refine dT [0] [] T.mixed [[0]] ?_
     refine gR 1 [] rfl (eY rfl rfl rG) ?_
     refine eD [[2],[3]] ?_
     refine BO 45 rfl tU ?_
     refine eD [[4],[5],[6],[7]] ?_
     refine pC 8 [] rfl (qP (α:=U32) T.sl87 rfl rfl rH rG) ?_
     refine pC 9 [0] rfl (eS T.one166 rfl (kZ rH rG 0 rfl rfl)) ?_
     refine pC 10 [] rfl (bZ rfl T.u165 rfl rG) ?_
     refine pC 11 [] rfl (mS rfl rfl tU) ?_
     refine eD [[12]] ?_
     refine pC 13 [] rfl (qO rfl rfl rG) ?_
     refine eD [[14],[15],[16]] ?_
     refine pC 17 [] rfl (dF T.sl87 rfl rfl rG) ?_
     refine pC 18 [0] rfl (kI 0 T.one166 rfl rfl rG) ?_
     refine pC 19 [] rfl (bZ rfl T.u165 rfl rG) ?_
     refine pC 20 [] rfl (Ch rfl rfl rG rG) ?_
     refine eD [[21],[22]] ?_
     refine dY ?_
     refine iG 6 [0] ?_
     refine qX (g) ?_
     exact ⟨hg2,hgb,hgu,CS hu hl du dv hhigh hg1 ⟨hg2,hgb⟩ rG rG⟩
   obtain ⟨hg0,hnx,hnu⟩:=dec (.inl rG)
   refine cJ 2 [] ?_
   refine dT [0] [] T.mixed [[0]] ?_
   refine gR 1 [] rfl (eY rfl rfl rG) ?_
   refine eD [[2],[3]] ?_
   refine BN 45 rfl tU ?_
   refine eD [[4],[5],[6],[7],[8],[9],[10],[11],[12],[13],[14],[15],[16],[17],[18],[19],[20],[21],[22]] ?_
   refine dY ?_
   refine Ar.gl 8 [1] ?_
   refine aN (iR rfl rfl rG) ?_
   refine aL 9 [] ?_
   refine dI (α:=U32) T.sl87 ?_
   refine fJ 0 T.one166 ?_
   refine aN (bZ rfl T.u165 rfl rG) ?_
   refine aN (fV rfl rfl rG) ?_
   refine aL 6 [] ?_
   refine aN (eY rfl rfl rG) ?_
   refine bR 3 [] ?_
   refine dL (fun hc1=>?_) fun hc1=>?_
   refine bG 4 [] ?_
   rotate_left
   refine bG 2 [] ?_
   rotate_left
   · refine dC 7 rfl rfl ?_
     refine qX (g - 1) ?_
     exact brk hnx hnu (by rw [←ev1];omega) hg0
   refine dC 8 rfl (show _=Value.int .u64 (r+lg lv (m+1)) by rw [ev1]) ?_
   refine cP ((g - 1,r+lg lv (m+1))) ?_ ?_
   · exact ⟨hnx,by omega,by omega,by omega,by rw [←ev1];omega,hnu⟩
   show (4294967296 - (r+lg lv (m+1))).toNat<(4294967296 - r).toNat
   omega
 clear hg1 hg2 hg3 hr1 hr2 hgu
 obtain ⟨hg1,hg2,hg3,hg4⟩:=hk
 refine aM 6 [] ?_
 refine bU 0 rfl (SW _ b p u q junk cw v cv lv gg hv du dv h1 rG ⟨hg1,hg2⟩) fun r1 G1 Ho1 hle1 hp=>?_
 obtain ⟨lw1,lo1,rfl,rfl,rfl,hlo1,hln1,hld1,hlv1⟩:=hp
 have hfew:=tY hld1
 have hnn:=sD hld1
 rcases hlo1 with hlo1 | hlo1
 · subst hlo1
   rw [cC,mG] at hlv1
   refine aN (eF rfl) ?_
   refine aL 6 [1] ?_
   refine aN (gB rfl T.u166 rfl rG) ?_
   refine aY 5 [] ?_
   refine pY ?_
   refine pJ [0] ?_
   refine ⟨lw1,gg,rfl,rfl,rfl,hg1,hg2,hln1,hld1,hlv1.symm,?_⟩
   rw [iX,fB] at hg3
   omega
 subst hlo1
 rw [fL,←hln1] at hlv1
 have hover:rI u<gg*rI lv:=rG
 have hgp:1≤gg:=by
  rcases (show gg=0∨1≤gg by omega) with h | h
  · rw [h,gA] at hover
    have:=sD du
    omega
  exact h
 refine aN (eF rfl) ?_
 refine aL 8 [0] ?_
 refine aN (iR rfl rfl rG) ?_
 refine bR 17 [] ?_
 refine fS (ι:=Nat×Int×List U32) (fun (i,c,z)=>([(89,.int .i64 (i:Int)),(9,.int .u64 c),(88,.int .i64 (u.length:Int)),(7,.int .u64 (gg - 1)),(0,.slice (some (Addr.mk b (List.length p) none)) (List.length u) cw),(1,.slice v (List.length lv) cv),(5,.int .i64 (lv.length:Int)),(4,.int .u32 0)],[(0,some b,rV 166 (p++(z++q)) junk)])) (fun (i,c,z)=>i≤lw1.length∧z.length=lw1.length∧Lims z∧0≤c∧c≤1∧z.drop i=lw1.drop i∧rI (lw1.take i)+rI (lv.take i)=rI (z.take i)+pb i*c) (fun (i,c,z)=>lw1.length - i) ((0,0,lw1)) (⟨aT _,rfl,hld1,by decide,by decide,rfl,by rw [bQ,bQ,sH,cC]⟩) fun ⟨i,c,z⟩=>fun hk=>?_
 obtain ⟨hi,hzn,hzd,hc0,hc1,hdrop,hval⟩:=hk
 rcases aJ i lw1.length with hia | hia
 · have hx:0≤(z[(i:Int).toNat]?.getD default).v∧(z[(i:Int).toNat]?.getD default).v<4294967296:=xP hzd rG
   have ex:(z[(i:Int).toNat]?.getD default).v=lg lw1 i:=Vm hdrop
   rcases aJ i lv.length with hib | hib
   · have hy:0≤(lv[(i:Int).toNat]?.getD default).v∧(lv[(i:Int).toNat]?.getD default).v<4294967296:=xP dv hib
     refine aM 22 [1] ?_
     refine aN (dF T.sl87 rfl rfl rG) ?_
     refine aN (kI 0 T.one166 rfl rfl rG) ?_
     refine aN (bZ rfl T.u165 rfl rG) ?_
     refine aN (fV rfl rfl rG) ?_
     refine aL 16 [1] ?_
     refine dI (α:=U32) T.sl87 ?_
     refine fJ 0 T.one166 ?_
     refine aN (bZ rfl T.u165 rfl rG) ?_
     refine aN (fV rfl rfl rG) ?_
     refine aL 8 [] ?_
     refine aN (gG rfl T.u166 rfl) ?_
     refine aN (dF T.sl87 rfl rfl rG) ?_
     refine oW 0 T.size166 rfl rfl rfl rG ?_
     refine aL 4 [] ?_
     refine aN (eY rfl rfl rG) ?_
     refine aY 8 [] ?_
     refine iD 0 (rV 166 (p++(z.set i (⟨(c+(z[(i:Int).toNat]?.getD default).v+(lv[(i:Int).toNat]?.getD default).v) % 4294967296⟩:U32)++q)) junk) rfl Lk ?_
     refine cP ((i+1,(c+(z[(i:Int).toNat]?.getD default).v+(lv[(i:Int).toNat]?.getD default).v) / 4294967296,z.set i (⟨(c+(z[(i:Int).toNat]?.getD default).v+(lv[(i:Int).toNat]?.getD default).v) % 4294967296⟩:U32))) ?_ ?_
     · exact ⟨by omega,by rw [aG];exact hzn,sE hzd _ (An _),by omega,by omega,uK hdrop _,Ci rG hval (by rw [ex];rfl)⟩
     show lw1.length - (i+1)<lw1.length - i
     omega
   have hz0:=zJ hib
   refine aM 22 [1] ?_
   refine aN (dF T.sl87 rfl rfl rG) ?_
   refine aN (kI 0 T.one166 rfl rfl rG) ?_
   refine aN (bZ rfl T.u165 rfl rG) ?_
   refine aN (fV rfl rfl rG) ?_
   refine aL 19 [0] ?_
   refine aN (gG rfl T.u166 rfl) ?_
   refine aN (dF T.sl87 rfl rfl rG) ?_
   refine oW 0 T.size166 rfl rfl rfl rG ?_
   refine aL 4 [] ?_
   refine aN (eY rfl rfl rG) ?_
   refine aY 8 [] ?_
   refine iD 0 (rV 166 (p++(z.set i (⟨(c+(z[(i:Int).toNat]?.getD default).v) % 4294967296⟩:U32)++q)) junk) rfl Lk ?_
   refine cP ((i+1,(c+(z[(i:Int).toNat]?.getD default).v) / 4294967296,z.set i (⟨(c+(z[(i:Int).toNat]?.getD default).v) % 4294967296⟩:U32))) ?_ ?_
   · exact ⟨by omega,by rw [aG];exact hzn,sE hzd _ (An _),by omega,by omega,uK hdrop _,Ci rG hval (by rw [ex,hz0,dB])⟩
   show lw1.length - (i+1)<lw1.length - i
   omega
 have hii:i=lw1.length:=rG
 subst hii
 have hvl:=tY dv
 have hpl:=Lx (show lv.length≤lw1.length by omega)
 have hback:=CT (g:=gg) (u:=u) (n:=lw1.length) rG hg4 hover rfl hzn rG rG hzd ⟨hc0,hc1⟩ hval
 refine aM 15 [0] ?_
 refine aN (gB rfl T.u166 rfl rG) ?_
 refine aY 4 [] ?_
 refine pY ?_
 refine pJ [0] ?_
 refine ⟨z,gg - 1,rfl,rfl,rfl,by omega,by omega,by omega,hzd,hback,?_⟩
 rw [oF,fB] at hback
 omega
end
theorem vS {s:Nat} (hs:s≤32):∃ Q:Int,((2 ^ s:Nat):Int)*Q=4294967296∧0<Q∧0<((2 ^ s:Nat):Int):=by
 refine ⟨((2 ^ (32 - s):Nat):Int),?_,?_,?_⟩
 · rw [←eW,←lT,Nat.add_sub_cancel' hs];decide
 · have:0<2 ^ (32 - s):=oB rW
   omega
 have:0<2 ^ s:=oB rW
 omega
theorem Yy {X:Int} {s:Nat} (hs:s≤32) (hX:0≤X∧X<4294967296):(X*((2 ^ s:Nat):Int)) % 4294967296 % ((2 ^ s:Nat):Int)=0∧0≤X*((2 ^ s:Nat):Int) / 4294967296∧X*((2 ^ s:Nat):Int) / 4294967296<((2 ^ s:Nat):Int)∧0≤X*((2 ^ s:Nat):Int)∧X*((2 ^ s:Nat):Int)<18446744073709551616:=by
 obtain ⟨Q,h1,h2,h3⟩:=vS hs
 generalize ((2 ^ s:Nat):Int)=P at *
 have hn:=jF hX.1 (bK h3)
 have hlt:=kA hX.2 h3
 have hP:P≤4294967296:=by
  have:=aW (show 1≤Q by omega) (bK h3)
  omega
 refine ⟨?_,lD hn rW,jU rW (by rw [cI P];exact hlt),hn,by omega⟩
 rw [Int.emod_emod_of_dvd _ ⟨Q,h1.symm⟩]
 exact Int.mul_emod_left X P
theorem DA {la r:List U32} {i d:Nat} {P hi lo:Int} (hk:i+d+1<r.length) (hz:lg r (i+d+1)=0) (hv:rI r=pb d*P*rI (la.take i)) (hlo:lo=lg r (i+d)+lg la i*P % 4294967296) (hhi:hi=lg la i*P / 4294967296) :
 rI ((r.set (i+d) ⟨lo⟩).set (i+d+1) ⟨hi⟩)=pb d*P*rI (la.take (i+1)):=by
 rw [xX _ _ _ (by rw [aG];exact hk),xX r _ _ rG,vR rG,hz,sL,hv,hlo,hhi,uV,Te]
 have h1:=Nv (pb i*pb d) (lg la i*P)
 show pb d*P*rI (la.take i)+pb i*pb d*(lg r (i+d)+lg la i*P % 4294967296 - lg r (i+d))+4294967296*(pb i*pb d)*(lg la i*P / 4294967296 - 0)=_
 have e1:lg r (i+d)+lg la i*P % 4294967296 - lg r (i+d)=lg la i*P % 4294967296:=rG
 have e2:pb d*P*(pb i*lg la i)=pb i*pb d*(lg la i*P):=by
  rw [cI (pb i) (pb d),bM,bM,cI (lg la i) P,dK P]
 rw [e1,mG,bI,e2,←h1]
 omega
theorem Qg {A0 A1:Int} {s:Nat} (hs:s≤32) (h0:0≤A0∧A0<4294967296) (h1:0≤A1∧A1<4294967296):((2 ^ s:Nat):Int)*(((A1*4294967296+A0) / ((2 ^ s:Nat):Int)) % 4294967296)=4294967296*(A1 % ((2 ^ s:Nat):Int))+A0 - A0 % ((2 ^ s:Nat):Int):=by
 obtain ⟨Q,hQ,hQ0,hP⟩:=vS hs
 generalize ((2 ^ s:Nat):Int)=P at *
 have e0:=fW A0 P
 have e1:=fW A1 P
 have n0:=hJ A0 (iW hP)
 have l0:=dX A0 hP
 have n1:=hJ A1 (iW hP)
 have l1:=dX A1 hP
 have q0:=lD h0.1 (bK hP)
 have q0':A0 / P<Q:=jU hP (by rw [cI];omega)
 generalize A0 % P=r0 at *
 generalize A1 % P=r1 at *
 generalize A0 / P=y0 at *
 generalize A1 / P=y1 at *
 have e2:A1*4294967296+A0=r0+P*(A1*Q+y0):=by
  rw [bI,dK P,hQ];omega
 have e3:(A1*4294967296+A0) / P=A1*Q+y0:=by
  rw [e2,mP _ _ (iW hP),iA n0 l0,iU]
 have e4:A1*Q+y0=r1*Q+y0+4294967296*y1:=by
  rw [←e1,iX,←hQ,Int.mul_right_comm P Q y1,bM P y1 Q];omega
 have f1:=jF n1 (bK hQ0)
 have f2:=cX (show r1+1≤P by omega) (bK hQ0)
 rw [iX,fB,hQ] at f2
 have e5:(A1*Q+y0) % 4294967296=r1*Q+y0:=by
  rw [e4,Int.add_mul_emod_self_left,Int.emod_eq_of_lt rG rG]
 rw [e3,e5,bI,dK P r1 Q,hQ]
 omega
theorem Qh {m r:List U32} {i:Nat} {P out ρ:Int} (hi:i<r.length) (hv:P*rI (r.take i)+ρ=rI (m.take i)+pb i*(lg m i % P)) (ho:P*out=4294967296*(lg m (i+1) % P)+lg m i - lg m i % P) :
 P*rI ((r.set i ⟨out⟩).take (i+1))+ρ=rI (m.take (i+1))+pb (i+1)*(lg m (i+1) % P):=by
 rw [sL (r.set i _),sL m,Aw hi,jB (aH i),uV,bI,dK P,ho,iF,bI,dK (pb i) 4294967296]
 rw [bM]
 omega
theorem IQ {m r:List U32} {P:Int} (hP:0<P) (hn:r.length=m.length) (hv:P*rI (r.take m.length)+lg m 0 % P=rI (m.take m.length)+pb m.length*(lg m m.length % P)):rI r=rI m / P:=by
 rw [rQ rG,rQ (aH _),zJ (aH _),Int.zero_emod,cC,dB] at hv
 rw [←hv,Int.add_comm,mP _ _ (iW hP),iA (hJ _ (iW hP)) (dX _ hP),iU]
theorem DC {x y:Int} {s:Nat} (hs:s≤32) (hx:x<((2 ^ s:Nat):Int)) (h0:0≤x) (hy:0≤y∧y<4294967296) (hm:y % ((2 ^ s:Nat):Int)=0):0≤x+y∧x+y<4294967296:=by
 obtain ⟨Q,hQ,hQ0,hP⟩:=vS hs
 generalize ((2 ^ s:Nat):Int)=P at *
 refine ⟨by omega,?_⟩
 have h1:=fW y P
 rw [hm,iU] at h1
 have h2:y / P<Q:=jU hP (by rw [cI];omega)
 have h3:=aW (show y / P+1≤Q by omega) (bK hP)
 rw [bI,fL,hQ,h1] at h3
 omega
section
attribute [local irreducible] rI pb sB
theorem OJ (G:Imm) (a:Option Addr) (ca:Nat) (la:List U32) (d s:Nat) (ha:Arr G a la) (da:Lims la) (h1:la.length≤1073741824) (hs:s<32) (hd:d≤1000) :
 Does Tryz.prog 110 [.slice a la.length ca,.int .i64 ((32*d+s:Nat):Int)] G [] (fun v G' Ho=>∃ r,v=.tuple #[r,.int .i64 0]∧Nat32 G' r (pb d*((2 ^ s:Nat):Int)*rI la) (la.length+d+1)∧Ho=[]):=by
 refine D0 Tryz.func110 Tryz.ntmps110 fun w=>?_
 have ed:((32*d+s:Nat):Int) / 32=(d:Int):=rG
 have es:((32*d+s:Nat):Int) % 32=(s:Int):=rG
 have hP:0<((2 ^ s:Nat):Int):=(vS rG).choose_spec.2.2
 refine aM 31 [0,0] ?_
 refine aN (mY rfl rfl rG) ?_
 refine aA 2 [] ?_
 refine gT (α:=U32) 0 rfl T.sl87 T.el166 rfl rfl rG rG fun b1=>?_
 refine aL 6 [] ?_
 refine aN (jA rfl rfl rG) ?_
 refine bR 12 [] ?_
 obtain ⟨N,hN⟩:∃ N,N=la.length+d+1:=⟨_,rfl⟩
 have hM:((la.length:Int)+((32*d+s:Nat):Int) / 32+1).toNat=N:=rG
 rw [hM]
 have hown:∀ r:List U32,r.length=N→OwnA (some ⟨b1,0,none⟩) N r []:=fun r hr=>.inr ⟨b1,rfl,by rw [hr];rfl,by omega,by simp only [maxLen];omega⟩
 refine iP 6 rfl (show _=Value.slice (some ⟨b1,0,none⟩) (List.replicate N (default:U32)).length N by rw [aE]) ?_
 refine iP 7 rfl (show _=Value.int .i64 (s:Int) by rw [es]) ?_
 refine fS (ι:=Nat×List U32) (fun (i,r)=>([(26,.int .i64 (i:Int)),(6,.slice (some ⟨b1,0,none⟩) r.length N),(7,.int .i64 (↑s:Int)),(25,.int .i64 (la.length:Int)),(24,.slice a (List.length la) ca),(5,.int .i64 0),(4,.slice none 0 0),(1,.int .i64 (↑(32*d+s):Int))],[(0,some b1,rV 166 r [])])) (fun (i,r)=>i≤la.length∧r.length=N∧Lims r∧rI r=pb d*((2 ^ s:Nat):Int)*rI (la.take i)∧lg r (i+d)<((2 ^ s:Nat):Int)∧∀ k,i+d<k→lg r k=0) (fun (i,r)=>la.length - i) ((0,List.replicate N (default:U32))) (⟨aT _,aE,mU N,by rw [bQ,sH,cC];exact xC N,by rw [Ck];exact hP,fun k _=>Ck N k⟩) fun ⟨i,r⟩=>fun hk=>?_
 obtain ⟨hi,hrN,hdr,hv,hlow,hz⟩:=hk
 have hor:=hown r hrN
 rcases aJ i la.length with hia | hia
 · have hx:0≤(la[(i:Int).toNat]?.getD default).v∧(la[(i:Int).toNat]?.getD default).v<4294967296:=xP da hia
   have ekk:((i:Int)+((32*d+s:Nat):Int) / 32).toNat=i+d:=rG
   have hpt:=Yy (s:=s) rG hx
   refine aM 14 [1] ?_
   refine dI (α:=U32) T.sl87 ?_
   refine fJ 0 T.one166 ?_
   refine aL 7 [] ?_
   refine aN (bZ rfl T.u165 rfl rG) ?_
   refine aA 1 [] ?_
   refine aN (IH rfl rfl rG rG) ?_
   refine aL 8 [] ?_
   refine aN (mY rfl rfl rG) ?_
   refine aA 1 [] ?_
   refine fP (α:=U32) T.sl87 ?_
   refine mZ 0 0 T.one166 ?_
   refine aA 1 [] ?_
   refine aN (gG rfl T.u166 rfl) ?_
   refine aN (Dp rfl rfl) ?_
   refine fP (α:=U32) T.sl87 ?_
   refine eT (z:=_) 0 T.size166 rfl rfl rfl rH rG rfl fun ho1=>?_
   refine aL 6 [] ?_
   refine aN (mY rfl rfl rG) ?_
   refine aA 2 [] ?_
   refine fP (α:=U32) T.sl87 ?_
   obtain ⟨r1,hr1⟩:∃ r1,r1=r.set (i+d) (⟨lg r (i+d)+(la[(i:Int).toNat]?.getD default).v*((2 ^ s:Nat):Int) % 4294967296⟩:U32):=⟨_,rfl⟩
   have hk0:=tN hdr (i+d)
   have hlo:bits BinOp.or IntKind.u32 (r[((i:Int)+((32*d+s:Nat):Int) / 32).toNat]?.getD default).v ((la[(i:Int).toNat]?.getD default).v*((2 ^ s:Nat):Int) % 4294967296)=lg r (i+d)+(la[(i:Int).toNat]?.getD default).v*((2 ^ s:Nat):Int) % 4294967296:=by
    rw [ekk]
    exact Fg _ _ s ⟨hk0.1,hlow⟩ (An _) rG hpt.1
   have hr1N:r1.length=N:=by rw [hr1,aG];exact hrN
   have hsum:=DC (s:=s) rG hlow hk0.1 (An _) hpt.1
   have hd1:Lims r1:=by rw [hr1];exact sE hdr _ hsum
   have hz1:lg r1 (i+d+1)=0:=by rw [hr1,vR rG];exact hz _ rG
   have hor1:=hown r1 hr1N
   refine nO 0 (rV 166 r1 []) rfl ?_ ?_
   · show rV 166 (r.set ((i:Int)+((32*d+s:Nat):Int) / 32).toNat ⟨bits BinOp.or IntKind.u32 (r[((i:Int)+((32*d+s:Nat):Int) / 32).toNat]?.getD default).v ((la[(i:Int).toNat]?.getD default).v*((2 ^ s:Nat):Int) % 4294967296)⟩) []=_
     rw [hlo,ekk,hr1]
   skip
   refine aN (Ca (m:=(i:Int)+((32*d+s:Nat):Int) / 32+1) (c:=N) (xs:=r1) (junk:=[]) 0 0 T.one166 rfl rfl hor1 rG rfl rfl) ?_
   refine aA 1 [] ?_
   refine aN (eY rfl rfl rG) ?_
   refine aN (gB rfl T.u166 rfl rG) ?_
   refine aN (Dp rfl rfl) ?_
   refine fP (α:=U32) T.sl87 ?_
   refine eT (z:=_) 0 T.size166 rfl rfl rfl rH rG rfl fun ho2=>?_
   refine aY 7 [] ?_
   have hhi:bits BinOp.or IntKind.u32 (r1[((i:Int)+((32*d+s:Nat):Int) / 32+1).toNat]?.getD default).v ((la[(i:Int).toNat]?.getD default).v*((2 ^ s:Nat):Int) / 4294967296)=(la[(i:Int).toNat]?.getD default).v*((2 ^ s:Nat):Int) / 4294967296:=by
    rw [show ((i:Int)+((32*d+s:Nat):Int) / 32+1).toNat=i+d+1 by omega,show (r1[i+d+1]?.getD default).v=0 by simpa only [lg,aF] using hz1]
    rw [Fg 0 _ 0 rW rG rW (Int.emod_one _),iU]
   obtain ⟨r2,hr2⟩:∃ r2,r2=r1.set (i+d+1) (⟨(la[(i:Int).toNat]?.getD default).v*((2 ^ s:Nat):Int) / 4294967296⟩:U32):=⟨_,rfl⟩
   refine iD 0 (rV 166 r2 []) rfl ?_ ?_
   · show rV 166 (r1.set ((i:Int)+((32*d+s:Nat):Int) / 32+1).toNat ⟨bits BinOp.or IntKind.u32 (r1[((i:Int)+((32*d+s:Nat):Int) / 32+1).toNat]?.getD default).v ((la[(i:Int).toNat]?.getD default).v*((2 ^ s:Nat):Int) / 4294967296)⟩) []=_
     rw [hhi,show ((i:Int)+((32*d+s:Nat):Int) / 32+1).toNat=i+d+1 by omega,hr2]
   have hr2N:r2.length=N:=by rw [hr2,aG];exact hr1N
   refine dC 6 rfl (show _=Value.slice (some ⟨b1,0,none⟩) r2.length N by rw [hr2N,hrN]) ?_
   have hlt32:=(vS (s:=s) rG)
   refine cP ((i+1,r2)) ?_ ?_
   · refine ⟨by omega,hr2N,by rw [hr2];exact sE hd1 _ ⟨hpt.2.1,by omega⟩,?_,?_,?_⟩
     · rw [hr2,hr1]
       exact DA rG (hz _ rG) hv rfl rfl
     · rw [show i+1+d=i+d+1 by omega,hr2,Aw rG]
       exact hpt.2.2.1
     intro k hk
     rw [hr2,vR rG,hr1,vR rG]
     exact hz k rG
   show la.length - (i+1)<la.length - i
   omega
 rw [rQ hia] at hv
 refine aM 15 [0] ?_
 refine cN 0 rfl hor fun G9 hle9 hA=>?_
 refine bU 1 rfl (Fv _ _ _ _ rH rG tU) fun v1 G1 Ho1 hle1 hp=>?_
 obtain ⟨ta1,tm1,rfl,hta1,hte1,htr1,htl1,rfl,rfl⟩:=hp
 refine aY 5 [] ?_
 refine eJ ?_
 exact ⟨_,rfl,nC hta1 hte1 htr1 hdr hv rG,rfl⟩
theorem SY (G:Imm) (a:Option Addr) (ca:Nat) (la:List U32) (s:Nat) (ha:Arr G a la) (da:Lims la) (h1:la.length≤1073741824) (hca:la.length≤ca) (hs:s<32) :
 Does Tryz.prog 204 [.slice a la.length ca,.int .i64 (s:Int)] G [] (fun v G' Ho=>∃ r,v=.tuple #[r,.int .i64 0]∧Nat32 G' r (rI la / ((2 ^ s:Nat):Int)) la.length∧Ho=[]):=by
 refine D0 Tryz.func204 Tryz.ntmps204 fun w=>?_
 have ed:(s:Int) / 32=0:=rG
 have es:(s:Int) % 32=(s:Int):=rG
 have hP:0<((2 ^ s:Nat):Int):=(vS rG).choose_spec.2.2
 refine aM 19 [0] ?_
 refine bU 0 rfl (Fv _ _ _ _ rH rG tU) fun v1 G1 Ho1 hle1 hp=>?_
 obtain ⟨ta1,tm1,rfl,hta1,hte1,htr1,htl1,rfl,rfl⟩:=hp
 refine aL 7 [] ?_
 refine aN (mY rfl rfl rG) ?_
 refine bR 5 [] ?_
 refine dL (fun hc1=>?_) fun hc1=>?_
 refine bG 8 [] ?_
 refine eJ ?_
 rotate_left
 refine aM 6 [] ?_
 refine aN (mY rfl rfl rG) ?_
 refine aN (HX T.sl87 rfl rfl rG rG) ?_
 refine aL 6 [] ?_
 refine aN (jA rfl rfl rG) ?_
 refine aL 7 [] ?_
 refine gT (α:=U32) 0 rfl T.sl87 T.el166 rfl rfl rG rG fun b1=>?_
 refine bR 12 [] ?_
 rotate_left
 · have hz:tm1=[]:=bW rG
   have hv0:rI la=0:=by rw [←uJ hte1 htr1,hz,sH]
   refine ⟨_,rfl,⟨none,[],rfl,oK _,Lims.nil,Top.nil,?_,aT _⟩,rfl⟩
   rw [hv0,Int.zero_ediv,sH]
 have dm:=uE hte1 da
 have hta2:Arr G1 (subA ta1 tm1.length 0 1) tm1:=by
  have h2:=Ii (c:=tm1.length) (sz:=1) hta1 tm1.length
  rw [rQ (aH _)] at h2
  exact h2
 obtain ⟨tb,htb⟩:∃ tb,tb=subA ta1 tm1.length 0 1:=⟨_,rfl⟩
 rw [←htb] at hta2
 obtain ⟨N,hN⟩:∃ N,N=tm1.length:=⟨_,rfl⟩
 have hM:(((tm1.length - ((s:Int) / 32).toNat:Nat):Int)).toNat=N:=rG
 rw [hM]
 have hown:∀ r:List U32,r.length=N→OwnA (some ⟨b1,0,none⟩) N r []:=fun r hr=>.inr ⟨b1,rfl,by rw [hr];rfl,by omega,by simp only [maxLen];omega⟩
 refine iP 7 rfl (show _=Value.slice (some ⟨b1,0,none⟩) (List.replicate N (default:U32)).length N by rw [aE]) ?_
 refine iP 6 rfl (show _=Value.int .i64 (s:Int) by rw [es]) ?_
 refine iP 0 rfl (show _=Value.slice tb tm1.length tm1.length by rw [ed,htb];rfl) ?_
 refine iP 29 rfl (show _=Value.slice tb tm1.length tm1.length by rw [ed,htb];rfl) ?_
 refine iP 30 rfl (show _=Value.int .i64 (tm1.length:Int) by rw [ed];rfl) ?_
 refine fS (ι:=Nat×List U32) (fun (i,r)=>([(31,.int .i64 (i:Int)),(7,.slice (some ⟨b1,0,none⟩) r.length N),(30,.int .i64 (tm1.length:Int)),(29,.slice tb (List.length tm1) (List.length tm1)),(0,.slice tb (List.length tm1) (List.length tm1)),(6,.int .i64 (↑s:Int)),(5,.int .i64 0),(4,.slice none 0 0)],[(0,some b1,rV 166 r [])])) (fun (i,r)=>i≤tm1.length∧r.length=N∧Lims r∧((2 ^ s:Nat):Int)*rI (r.take i)+lg tm1 0 % ((2 ^ s:Nat):Int)=rI (tm1.take i)+pb i*(lg tm1 i % ((2 ^ s:Nat):Int))) (fun (i,r)=>tm1.length - i) ((0,List.replicate N (default:U32))) (⟨aT _,aE,mU N,by rw [bQ,bQ,sH,cC,Gl,fB]⟩) fun ⟨i,r⟩=>fun hk=>?_
 obtain ⟨hi,hrN,hdr,hv⟩:=hk
 have hor:=hown r hrN
 rcases aJ i tm1.length with hia | hia
 · have hx:0≤(tm1[(i:Int).toNat]?.getD default).v∧(tm1[(i:Int).toNat]?.getD default).v<4294967296:=xP dm hia
   have ex:(tm1[(i:Int).toNat]?.getD default).v=lg tm1 i:=rfl
   have ex1:(tm1[((i:Int)+1).toNat]?.getD default).v=lg tm1 (i+1):=by unfold lg;rw [show ((i:Int)+1).toNat=((i+1:Nat):Int).toNat by omega]
   have hy:0≤(tm1[((i:Int)+1).toNat]?.getD default).v∧(tm1[((i:Int)+1).toNat]?.getD default).v<4294967296:=by rw [ex1];exact tN dm _
   by_cases hib:i+1<tm1.length
   · refine aM 14 [1] ?_
     refine dI (α:=U32) T.sl87 ?_
     refine fJ 0 T.one166 ?_
     refine aL 7 [] ?_
     refine aN (bZ rfl T.u165 rfl rG) ?_
     refine aL 19 [1] ?_
     refine dI (α:=U32) T.sl87 ?_
     refine lH rfl (eS T.one166 rfl (kZ rH rG 0 rfl rfl)) ?_
     refine aN (bZ rfl T.u165 rfl rG) ?_
     refine aN (qO rfl rfl rG) ?_
     refine aN (Yv rfl rfl rG rG) ?_
     refine aL 8 [] ?_
     refine aN (Vj rfl rfl rG rG) ?_
     refine aN (gG rfl T.u166 rfl) ?_
     refine lH rfl (kX (α:=U32) T.sl87 rfl rfl rH rG) ?_
     refine eT (z:=_) 0 T.size166 rfl rfl rfl rH rG rfl fun ho1=>?_
     refine aY 7 [] ?_
     obtain ⟨out,hout⟩:∃ out,out=((tm1[((i:Int)+1).toNat]?.getD default).v*4294967296+(tm1[(i:Int).toNat]?.getD default).v) / ((2 ^ s:Nat):Int) % 4294967296:=⟨_,rfl⟩
     have hpart:((2 ^ s:Nat):Int)*out=4294967296*(lg tm1 (i+1) % ((2 ^ s:Nat):Int))+lg tm1 i - lg tm1 i % ((2 ^ s:Nat):Int):=by
      rw [hout,ex,ex1];exact Qg rG (tN dm i) (tN dm (i+1))
     refine iD 0 (rV 166 (r.set i (⟨out⟩:U32)) []) rfl (by rw [hout,aF]) ?_
     refine dC 7 rfl (show _=Value.slice (some ⟨b1,0,none⟩) (r.set i (⟨out⟩:U32)).length N by rw [aG]) ?_
     refine cP ((i+1,r.set i (⟨out⟩:U32))) ?_ ?_
     · exact ⟨by omega,by rw [aG];exact hrN,sE hdr _ (by rw [hout];exact An _),Qh rG hv hpart⟩
     show tm1.length - (i+1)<tm1.length - i
     omega
   have hz0:=zJ (show tm1.length≤i+1 by omega)
   refine aM 14 [1] ?_
   refine dI (α:=U32) T.sl87 ?_
   refine fJ 0 T.one166 ?_
   refine aL 7 [] ?_
   refine aN (bZ rfl T.u165 rfl rG) ?_
   refine aL 21 [0] ?_
   refine aN (Vj rfl rfl rG rG) ?_
   refine aN (gG rfl T.u166 rfl) ?_
   refine fP (α:=U32) T.sl87 ?_
   refine eT (z:=_) 0 T.size166 rfl rfl rfl rH rG rfl fun ho1=>?_
   refine aY 7 [] ?_
   obtain ⟨out,hout⟩:∃ out,out=(tm1[(i:Int).toNat]?.getD default).v / ((2 ^ s:Nat):Int) % 4294967296:=⟨_,rfl⟩
   have hpart:((2 ^ s:Nat):Int)*out=4294967296*(lg tm1 (i+1) % ((2 ^ s:Nat):Int))+lg tm1 i - lg tm1 i % ((2 ^ s:Nat):Int):=by
    rw [hout,show (tm1[(i:Int).toNat]?.getD default).v=lg tm1 (i+1)*4294967296+lg tm1 i by rw [hz0,gA,iU];rfl];exact Qg rG (tN dm i) (tN dm (i+1))
   refine iD 0 (rV 166 (r.set i (⟨out⟩:U32)) []) rfl (by rw [hout,aF]) ?_
   refine dC 7 rfl (show _=Value.slice (some ⟨b1,0,none⟩) (r.set i (⟨out⟩:U32)).length N by rw [aG]) ?_
   refine cP ((i+1,r.set i (⟨out⟩:U32))) ?_ ?_
   · exact ⟨by omega,by rw [aG];exact hrN,sE hdr _ (by rw [hout];exact An _),Qh rG hv hpart⟩
   show tm1.length - (i+1)<tm1.length - i
   omega
 have hii:i=tm1.length:=rG
 subst hii
 have hval:=IQ hP rG hv
 refine aM 15 [0] ?_
 refine cN 0 rfl hor fun G9 hle9 hA=>?_
 refine bU 1 rfl (Fv _ _ _ _ rH rG tU) fun v2 G2 Ho2 hle2 hp=>?_
 obtain ⟨ta2,tm2,rfl,hta2,hte2,htr2,htl2,rfl,rfl⟩:=hp
 refine aY 5 [] ?_
 refine eJ ?_
 rw [uJ hte1 htr1] at hval
 exact ⟨_,rfl,nC hta2 hte2 htr2 hdr hval rG,rfl⟩
end
end Go.Proofs.YtngphgeghfdjbaaGreatDoor
namespace Go.Sl
open Go
section
variable {P:Program} {ops:Array Oper} {rest:List Oper} {B:Bs} {e:Env} {D:List Deferred} {H:Hp} {G:Imm} {K:Act→World→Prop}
 {ty:TypeId} {pos:String} {after:Array Edge} {d:Nat} {α:Type} [Cells α]
theorem Kv {w:World} (hw:HoldH H G w) {T E bytes:Nat} {zs:List Value} (hT:rS P T E (Cells.sz α)) (hE:ElemOf P E (Cells.sz α) bytes zs) {a ad:Option Addr} {c2:Nat} {xs ys:List α}
 (hA:Src H G a xs) (hx0:0<xs.length) (hsrc:Src H G ad ys) (hy0:0<ys.length) (hb:(xs.length+ys.length)*bytes≤140737488355328) (hl:xs.length+ys.length≤maxLen) :
 ∃ c' junk' w',(Builtin.append_ #[T,T] ty #[.slice a xs.length xs.length,.slice ad ys.length c2]).run P w=.ok (.slice (some ⟨w.heap.size,0,none⟩) (xs++ys).length c') w'∧OwnA (some ⟨w.heap.size,0,none⟩) c' (xs++ys) junk'∧
  Upd (fun _=>False) w w'∧w'.heap.size=w.heap.size+1∧w'.heap[w.heap.size]?=some (rV E (xs++ys) junk'):=by
 obtain ⟨i,z,hi,hz1,hz2,hs,hby,hzl,hsz⟩:=hE
 have hm63:xs.length+ys.length≤9223372036854775807:=by simp only [maxLen] at hl;omega
 have hlen:(xs++ys).length=xs.length+ys.length:=aI
 have hyl:(rX ys).length=ys.length*i.size:=by rw [rT,hs]
 have hxl:(rX xs).length=xs.length*i.size:=by rw [rT,hs]
 have junkLen:∀ k,(Builtin.zeroCells z.cells k).toList.length=k*Cells.sz α:=fun k=>by
  rw [kW,size_zeroCells,hz2];simp [hzl]
 have fresh:∀ old,old<xs.length+ys.length→∃ junk',OwnA (some ⟨w.heap.size,0,none⟩) (grownCap w (xs.length+ys.length) old E) (xs++ys) junk'∧
  (w.drew.alloc (.cells ((rX xs).toArray++(rX ys).toArray++Builtin.zeroCells z.cells (grownCap w (xs.length+ys.length) old E - (xs.length+ys.length))) E)).heap[w.heap.size]?=some (rV E (xs++ys) junk'):=fun old hold=>by
  have hge:=grownCap_ge w (xs.length+ys.length) old E
  have hcm:grownCap w (xs.length+ys.length) old E≤maxLen:=qC w _ old E hl
  refine ⟨(Builtin.zeroCells z.cells (grownCap w (xs.length+ys.length) old E - (xs.length+ys.length))).toList,.inr ⟨_,rfl,?_,by rw [hlen];exact hge,hcm⟩,?_⟩
  · rw [junkLen,hlen,←eL];congr 1;omega
  rw [show w.heap.size=w.drew.heap.size from rfl,sK]
  congr 1
  simp [rV,tV]
 have hupd:∀ o,Upd (fun _=>False) w (w.drew.alloc o):=fun o=>(lZ _ w).drew.alloc o
 rcases hA w hw with ⟨_,h0⟩ | ⟨ax,rfl,hcell⟩
 · rw [h0] at hx0;simp at hx0
 rcases hsrc w hw with ⟨_,h0⟩ | ⟨src,rfl,hsr⟩
 · rw [h0] at hy0;simp at hy0
 have hr:=run_append_grow (P:=P) w T ty E i z hT.1 hi hz1 ax xs.length xs.length (rX xs) hxl hcell src ys.length c2 (rX ys) hyl hsr rG rG (growslice_fits rG (by rw [hby];exact hb))
 obtain ⟨junk',h1,h2⟩:=fresh xs.length rG
 exact ⟨_,junk',_,by rw [hlen];exact hr,h1,hupd _,by simp,h2⟩
theorem Nw {s x:Operand} {T E bytes:Nat} {zs:List Value} {a ad:Option Addr} {c2:Nat} {xs ys:List α} (t:Nat) (hn:Nat.ble (d+1) B.n=true) (hT:rS P T E (Cells.sz α)) (hE:ElemOf P E (Cells.sz α) bytes zs)
 (hs:e.ev s=some (.slice a xs.length xs.length)) (hx:e.ev x=some (.slice ad ys.length c2)) (hA:Src H G a xs) (hx0:0<xs.length) (hsrc:Src H G ad ys) (hy0:0<ys.length)
 (hb:(xs.length+ys.length)*bytes≤140737488355328) (hl:xs.length+ys.length≤maxLen)
 (h:∀ b c' junk',OwnA (some ⟨b,0,none⟩) c' (xs++ys) junk'→Wl P ops rest B ⟨(d,.slice (some ⟨b,0,none⟩) (xs++ys).length c') :: e,D,(t,some b,rV E (xs++ys) junk') :: H,G⟩ K) :
 Wl P ops (⟨some d,.call { callee:=.builtin .append,args:=#[s,x],argTypes:=#[T,T] },ty,pos,after,none⟩ :: rest) B ⟨e,D,H,G⟩ K:=by
 intro ac w hh
 obtain ⟨c',junk',w',hrun,ho',hu,hsz,hbk⟩:=Kv (c2:=c2) (ty:=ty) hh.mem hT hE hA hx0 hsrc hy0 hb hl
 unfold rZ
 rw [aR (by simp [Region.wanted])]
 unfold wD
 have hex:(execOp ac.eval ⟨some d,.call { callee:=.builtin .append,args:=#[s,x],argTypes:=#[T,T] },ty,pos,after,none⟩).run P w=.ok (.value (.slice (some ⟨w.heap.size,0,none⟩) (xs++ys).length c')) w':=by
  simp only [execOp,resolve,invoke,builtin,bE,bJ,aO,kS,bX,iT,hh.eval hs,hh.eval hx,hrun]
 rw [hex]
 exact h _ c' junk' ho' _ _ (Hold.put (hh.ownNew t hu hsz hbk) hn _)
end
end Go.Sl
namespace Go.Proofs.YtngphgeghfdjbaaGreatDoor
open Go Go.Sl
theorem wT {l:List U32} (h:Lims l) (k:Nat):Lims (l.drop k):=fun d hd=>h d (List.mem_of_mem_drop hd)
theorem Ao:∀ (f x:Nat),0<x→x<2 ^ f→1≤Lib.bitLenAux f x∧Lib.bitLenAux f x≤f∧2 ^ (Lib.bitLenAux f x - 1)≤x∧x<2 ^ Lib.bitLenAux f x
 | 0,x,h0,h1=>by simp at h1;omega
 | f+1,x,h0,h1=>by
   unfold Lib.bitLenAux
   rw [aK (by omega)]
   by_cases h2:x / 2=0
   · have hx:x=1:=rG
     subst hx
     have:Lib.bitLenAux f (1 / 2)=0:=by cases f <;> simp [Lib.bitLenAux]
     rw [this];simp
   have ih:=Ao f (x / 2) rG (by rw [nK] at h1;omega)
   obtain ⟨a1,a2,a3,a4⟩:=ih
   refine ⟨by omega,by omega,?_,?_⟩
   · rw [oQ,←lI a1,nK];omega
   rw [Nat.add_comm 1,nK];omega
theorem Yz {x:Int} (h0:0<x) (h1:x<4294967296):∃ s:Nat,s<32∧32 - (Lib.bitLen x.toNat:Int)=(s:Int)∧2147483648≤((2 ^ s:Nat):Int)*x∧((2 ^ s:Nat):Int)*(x+1)≤4294967296:=by
 have hb:=Ao 64 x.toNat rG (by have:(2:Nat) ^ 64=18446744073709551616:=rW;omega)
 have hle:=Lib.bitLen_le x.toNat 32 rG rG
 unfold Lib.bitLen at hle ⊢
 generalize Lib.bitLenAux 64 x.toNat=L at *
 obtain ⟨b1,b2,b3,b4⟩:=hb
 refine ⟨32 - L,by omega,by omega,?_,?_⟩
 · have e:2 ^ (32 - L)*2 ^ (L - 1)=2147483648:=by
    rw [←lT,show 32 - L+(L - 1)=31 by omega]
   have h2:=Nat.mul_le_mul_left (2 ^ (32 - L)) b3
   rw [e] at h2
   have h3:((2 ^ (32 - L):Nat):Int)*x=((2 ^ (32 - L)*x.toNat:Nat):Int):=by rw [eW,cL rG]
   rw [h3];omega
 have e:2 ^ (32 - L)*2 ^ L=4294967296:=by
  rw [←lT,show 32 - L+L=32 by omega]
 have h2:=Nat.mul_le_mul_left (2 ^ (32 - L)) (show x.toNat+1≤2 ^ L by omega)
 rw [e] at h2
 have h3:((2 ^ (32 - L):Nat):Int)*(x+1)=((2 ^ (32 - L)*(x.toNat+1):Nat):Int):=by rw [eW,Int.natCast_add,cL rG];rfl
 rw [h3];omega
theorem DD {b v:List U32} {m:Nat} {P:Int} (hP:0<P) (hb:b.length=m+2) (db:Lims b) (dv:Lims v) (tv:Top v) (hx:2147483648≤P*lg b (m+1)) (hx2:P*(lg b (m+1)+1)≤4294967296) (hv:rI v=P*rI b):v.length=m+2∧2147483648≤lg v (m+1):=by
 have e1:=sL b (m+1)
 rw [rQ (show b.length≤m+1+1 by omega)] at e1
 have h1:=tY (db.take (m+1))
 have h2:=sD (db.take (m+1))
 rw [bC,cS rG] at h1
 have hp:=vG (m+1)
 have up:rI v<pb (m+2):=by
  have f1:=Int.mul_lt_mul_of_pos_left (show rI b<pb (m+1)*(lg b (m+1)+1) by rw [bI,fL];omega) hP
  have f2:=aW hx2 (bK hp)
  rw [hv,show m+2=m+1+1 by omega,uV,cI 4294967296]
  rw [dK P] at f1
  omega
 have low:pb (m+1)*2147483648≤rI v:=by
  have f1:=aW (show pb (m+1)*lg b (m+1)≤rI b by omega) (bK hP)
  have f2:=aW hx (bK hp)
  rw [hv]
  rw [dK P] at f1
  omega
 have l1:=Pz dv tv up
 have l2:m+2≤v.length:=by
  rcases aJ v.length (m+2) with h | h
  · have f1:=tY dv
    have f2:=Lx (show v.length≤m+1 by omega)
    omega
  exact h
 have hl:v.length=m+2:=rG
 refine ⟨hl,?_⟩
 have e2:=sL v (m+1)
 rw [rQ (show v.length≤m+1+1 by omega)] at e2
 have h3:=tY (dv.take (m+1))
 rw [bC,cS rG] at h3
 rcases Int.lt_or_le (lg v (m+1)) 2147483648 with h | h
 · have f1:=aW (show lg v (m+1)+1≤2147483648 by omega) (bK hp)
   rw [bI,fL] at f1
   omega
 exact h
theorem Qi {x y:Int} (h:sB x y<0):x<y:=by
 unfold sB at h
 split at h
 · assumption
 split at h <;> omega
theorem DE (R:List U32) (i n:Nat):R=R.take i++((R.drop i).take n++R.drop (i+n)):=by
 rw [←mE,cU,cU]
theorem Za {u v:List U32} (du:Lims u) (dv:Lims v) (tv:Top v) (h0:0<v.length) (hl:v.length≤u.length):rI ((u++[(default:U32)]).drop (u.length+1 - v.length))<rI v:=by
 rw [eM rG,sW,zH]
 have h1:=tY (wT du (u.length+1 - v.length))
 rw [dM,show u.length - (u.length+1 - v.length)=v.length - 1 by omega] at h1
 have h2:=Gn dv tv (fun e=>by rw [e] at h0;simp at h0)
 show rI (u.drop (u.length+1 - v.length))+pb _*0<_
 rw [cC];omega
theorem DF {R v:List U32} {i n:Nat} (dR:Lims R) (dv:Lims v) (hi:i<R.length) (hn:v.length=n) (hl:i+(n+1)≤R.length) (h:rI (R.drop (i+1))<rI v) :
 rI ((R.drop i).take (n+1))<4294967296*rI v∧rI (R.drop (i+(n+1)))=0:=by
 have e1:=uI hi
 have e2:=xD (R.drop i) (show n+1≤(R.drop i).length by rw [dM];omega)
 rw [mE] at e2
 have h1:=tN dR i
 have h2:=tY dv
 rw [hn] at h2
 have h3:=sD (wT dR (i+(n+1)))
 have h4:=sD ((wT dR i).take (n+1))
 have h5:=sD (wT dR (i+1))
 have hp:=vG (n+1)
 have h6:rI (R.drop (i+(n+1)))=0:=by
  rcases (show rI (R.drop (i+(n+1)))=0∨1≤rI (R.drop (i+(n+1))) by omega) with hz | hz
  · exact hz
  have f1:=aW hz (bK hp)
  rw [fL] at f1
  have f2:=uV n
  omega
 refine ⟨?_,h6⟩
 rw [h6,cC] at e2
 omega
theorem IR {a b q R P:Int} (hP:0<P) (h:P*a=q*(P*b)+R) (h0:0≤R) (h1:R<P*b):R / P=a % b∧q=a / b∧0<b:=by
 have e:R=P*(a - q*b):=by rw [iF,dK P q];omega
 have e1:R / P=a - q*b:=by rw [e,Int.mul_ediv_cancel_left _ (iW hP)]
 have l0:0≤a - q*b:=by
  rw [e] at h0
  exact Int.le_of_mul_le_mul_left (by rw [cC];exact h0) hP
 have l1:a - q*b<b:=by
  rw [e] at h1
  exact nY h1 (bK hP)
 have hb:0<b:=rG
 have:=(pP (a:=a) (b:=b) (r:=a - q*b) (q:=q) hb).2 ⟨by rw [cI b q];omega,l0,l1⟩
 exact ⟨e1.trans this.2.symm,this.1.symm,hb⟩
theorem zL {G:Imm} {v:Value} {z:Int} {n:Nat} {lb:List U32} (h:Nat32 G v z n) (db:Lims lb) (hz:z<rI lb):Nat32 G v z lb.length:=by
 obtain ⟨b,m,h1,h2,h3,h4,h5,h6⟩:=h
 refine ⟨b,m,h1,h2,h3,h4,h5,?_⟩
 rcases aJ lb.length m.length with h7 | h7
 · have:=wG db h3 h4 h7;omega
 exact h7
theorem SZ (G:Imm) (x:Int) (h0:0≤x) (h1:x≤4294967295):Does Tryz.prog 202 [.int .u32 x] G [] (fun v G' Ho=>v=.int .i64 (32 - (Lib.bitLen x.toNat:Int))∧G'=G∧Ho=[]):=
 Il fun w=>Tryz.bits_LeadingZeros32 x w h0 h1
theorem OK (G:Imm) (x:Int) (h0:0<x) (h1:x<4294967296):Does Tryz.prog 202 [.int .u32 x] G [] (fun v G' Ho=>∃ sh:Nat,v=.int .i64 (sh:Int)∧sh<32∧2147483648≤((2 ^ sh:Nat):Int)*x∧((2 ^ sh:Nat):Int)*(x+1)≤4294967296∧G'=G∧Ho=[]):=by
 obtain ⟨sh,h2,h3,h4,h5⟩:=Yz h0 h1
 exact (SZ G x rG rG).mono fun v G' Ho _ ⟨e1,e2,e3⟩=>⟨sh,by rw [e1,h3],h2,h4,h5,e2,e3⟩
theorem KU (G:Imm) (a:Option Addr) (ca:Nat) (la:List U32) (s:Nat) (ha:Arr G a la) (da:Lims la) (h1:la.length≤1073741824) (hs:s<32) :
 Does Tryz.prog 110 [.slice a la.length ca,.int .i64 (s:Int)] G [] (fun v G' Ho=>∃ r,v=.tuple #[r,.int .i64 0]∧Nat32 G' r (((2 ^ s:Nat):Int)*rI la) (la.length+1)∧Ho=[]):=by
 have h:=OJ G a ca la 0 s ha da h1 hs rG
 rw [show 32*0+s=s by omega,Gl,fB] at h
 exact h
section
attribute [local irreducible] rI pb sB rZ
theorem TA (G:Imm) (a b:Option Addr) (ca cb:Nat) (la lb:List U32) (ha:Arr G a la) (hb:Arr G b lb) (da:Lims la) (ta:Top la) (db:Lims lb) (h1:la.length≤536870912) (h2:lb.length≤536870912) (h3:la.length≤ca) (h4:lb.length≤cb) (hB:0<rI lb) :
 Does Tryz.prog 158 [.slice a la.length ca,.slice b lb.length cb] G [] (fun v G' Ho=>∃ q r,v=.tuple #[q,r,.int .i64 0]∧Nat32 G' q (rI la / rI lb) la.length∧Nat32 G' r (rI la % rI lb) lb.length∧Ho=[]):=by
 have hA:=sD da
 refine D0 Tryz.func158 Tryz.ntmps158 fun w=>?_
 refine aM 10 [] ?_
 refine bU 0 rfl (Fv _ _ _ _ rH rG tU) fun v1 G1 Ho1 hle1 hp=>?_
 obtain ⟨ta1,tm1,rfl,hta1,hte1,htr1,htl1,rfl,rfl⟩:=hp
 refine bR 3 [] ?_
 have dm:=uE hte1 db
 have tp:=zK hte1 htr1
 have hV:=uJ hte1 htr1
 have hpos:0<tm1.length:=by
  rcases eQ tm1.length with h | h
  · have h5:=bW h
    rw [h5,sH] at hV
    omega
  exact h
 by_cases hlt:rI la<rI tm1
 · have hcmp:sB (rI la) (rI tm1)=-1:=wA hlt
   refine aM 16 [0] ?_
   refine cG rfl (KT _ _ _ _ _ _ _ rH rH rH rH rG rG rG rG) ?_
   refine aL 7 [1] ?_
   refine bU 0 rfl (LY _ _ _ _ rH Hg Hg) fun v2 G2 Ho2 hle2 hp=>?_
   obtain ⟨na2,nm2,rfl,hna2,hne2,hnt2,hnl2,rfl⟩:=hp
   replace ha:=ha.up hle2
   replace hb:=hb.up hle2
   replace hta1:=hta1.up hle2
   refine aY 7 [] ?_
   refine Ar.e3 ?_
   refine ⟨_,_,rfl,⟨none,[],rfl,oK _,Lims.nil,Top.nil,?_,aT _⟩,zL (nC hna2 hne2 hnt2 da ?_ (aH _)) db ?_,rfl⟩
   · rw [sH,iA hA rG]
   · rw [Int.emod_eq_of_lt hA rG]
   exact dX _ hB
 have hcmp:¬sB (rI la) (rI tm1)<0:=fun h=>hlt (Qi h)
 by_cases hone:tm1.length=1
 · have hv1:=CK hone
   have hr1:=tN dm 0
   have e1:(tm1[(0:Int).toNat]?.getD default).v=lg tm1 0:=rfl
   have hb0:0<(tm1[(0:Int).toNat]?.getD default).v∧(tm1[(0:Int).toNat]?.getD default).v<4294967296:=by rw [e1];omega
   refine aM 16 [0] ?_
   refine cG rfl (KT _ _ _ _ _ _ _ rH rH rH rH rG rG rG rG) ?_
   refine aL 19 [0,1] ?_
   refine dI (α:=U32) T.sl87 ?_
   refine lH rfl (eS T.one166 rfl (kZ rH rG 0 rfl rfl)) ?_
   refine bU 0 rfl (SU _ _ _ _ _ rH rH rG rG rG) fun v2 G2 Ho2 hle2 hp=>?_
   obtain ⟨dq2,dz2,dm2,rfl,⟨dqa2,dqm2,rfl,hdqa2,hdql2,hdqt2,hdqv2,hdqn2⟩,hdv2,hd02,hd12,rfl⟩:=hp
   replace ha:=ha.up hle2
   replace hb:=hb.up hle2
   replace hta1:=hta1.up hle2
   refine aL 13 [] ?_
   refine fC (α:=U32) 0 [⟨dm2⟩] rfl T.sl87 T.el166 rfl rfl rfl rfl rfl fun b1=>?_
   have hdl:Lims [(⟨dm2⟩:U32)]:=Lims.one rG
   refine cN 0 rfl (iS (xs:=[(⟨dm2⟩:U32)]) Hj) fun G9 hle9 hA9=>?_
   replace hdqa2:=hdqa2.up hle9
   refine bU 1 rfl (LY _ _ _ _ rH Hg Hg) fun v3 G3 Ho3 hle3 hp=>?_
   obtain ⟨na3,nm3,rfl,hna3,hne3,hnt3,hnl3,rfl⟩:=hp
   replace hA9:=hA9.up hle3
   replace hdqa2:=hdqa2.up hle3
   refine aY 7 [] ?_
   refine Ar.e3 ?_
   have hdu:=(pP (a:=rI la) (b:=rI lb) (r:=dm2) (q:=dz2) hB).2 ⟨by rw [cI,←hV,hv1,←e1];omega,hd02,by rw [←hV,hv1,←e1];exact hd12⟩
   refine ⟨_,_,rfl,⟨dqa2,dqm2,rfl,hdqa2,hdql2,hdqt2,by rw [hdqv2,hdu.1],hdqn2⟩,zL (nC hna3 hne3 hnt3 hdl (by rw [zH,hdu.2]) (aH _)) db (dX _ hB),rfl⟩
 obtain ⟨m,hm⟩:∃ m,tm1.length=m+2:=⟨tm1.length - 2,by omega⟩
 have hx:=tN dm (m+1)
 have ex:(tm1[((tm1.length:Int) - 1).toNat]?.getD default).v=lg tm1 (m+1):=by unfold lg;rw [show ((tm1.length:Int) - 1).toNat=((m+1:Nat):Int).toNat by omega]
 have hx1:lg tm1 (m+1)≠0:=by
  rcases tp with h | h
  · rw [h] at hm;simp at hm
  unfold lg;rw [aF,show m+1=tm1.length - 1 by omega];exact h
 have hxb:0<(tm1[((tm1.length:Int) - 1).toNat]?.getD default).v∧(tm1[((tm1.length:Int) - 1).toNat]?.getD default).v<4294967296:=by rw [ex];omega
 refine aM 16 [0] ?_
 refine cG rfl (KT _ _ _ _ _ _ _ rH rH rH rH rG rG rG rG) ?_
 refine aL 23 [0,0] ?_
 refine dI (α:=U32) T.sl87 ?_
 refine fJ 0 T.one166 ?_
 refine bU 0 rfl (OK _ _ rG rG) fun v2 G2 Ho2 hle2 hp=>?_
 obtain ⟨sh,rfl,hsh,hs1,hs2,rfl,rfl⟩:=hp
 refine aL 7 [] ?_
 refine bU 0 rfl (KU _ _ _ _ sh rH rH rG rG) fun v3 G3 Ho3 hle3 hp=>?_
 obtain ⟨sr3,rfl,⟨sa3,sm3,rfl,hsa3,hsl3,hst3,hsv3,hsn3⟩,rfl⟩:=hp
 replace ha:=ha.up hle3
 replace hb:=hb.up hle3
 replace hta1:=hta1.up hle3
 refine aL 11 [] ?_
 refine bU 0 rfl (KU _ _ _ _ sh rH rH rG rG) fun v4 G4 Ho4 hle4 hp=>?_
 obtain ⟨sr4,rfl,⟨sa4,sm4,rfl,hsa4,hsl4,hst4,hsv4,hsn4⟩,rfl⟩:=hp
 replace hsa3:=hsa3.up hle4
 replace ha:=ha.up hle4
 replace hb:=hb.up hle4
 replace hta1:=hta1.up hle4
 refine aL 10 [] ?_
 refine fC (α:=U32) 0 [⟨0⟩] rfl T.sl87 T.el166 rfl rfl rfl rfl rfl fun b1=>?_
 have hP:0<((2 ^ sh:Nat):Int):=(vS (s:=sh) rG).choose_spec.2.2
 obtain ⟨hvl,hvt⟩:=DD hP hm dm hsl3 hst3 (by rw [←ex];exact hs1) (by rw [←ex];exact hs2) hsv3
 have hge:rI sm3≤rI sm4:=by
  rw [hsv3,hsv4];exact aW rG (bK hP)
 have huv:sm3.length≤sm4.length:=by
  rcases aJ sm4.length sm3.length with h | h
  · have:=wG hsl4 hsl3 hst3 h;omega
  exact h
 refine Nw (α:=U32) (xs:=sm4) (ys:=[(⟨0⟩:U32)]) 40 rfl T.sl87 T.el166 rfl rfl (oX rH) rG (fZ 0 rfl) rW (by simp only [bV,cT];omega) (by simp only [bV,cT,maxLen];omega) fun b2 c2 j2 ho2=>?_
 have hstart:=Za hsl4 hsl3 hst3 rG huv
 have huA:rI (sm4++[(⟨0⟩:U32)])=rI sm4:=by rw [sW,zH];show _+_*0=_;omega
 have dU:Lims (sm4++[(⟨0⟩:U32)]):=hsl4.append (Lims.one rW)
 have lU:(sm4++[(⟨0⟩:U32)]).length=sm4.length+1:=by rw [aI];rfl
 change rI ((sm4++[(⟨0⟩:U32)]).drop _)<_ at hstart
 generalize sm4++[(⟨0⟩:U32)]=uL at *
 refine aL 16 [] ?_
 refine gT (α:=U32) 41 rfl T.sl87 T.el166 rfl rfl rG rG fun b3=>?_
 refine bR 15 [] ?_
 obtain ⟨N,hN⟩:∃ N,N=uL.length - sm3.length:=⟨_,rfl⟩
 have hM:((uL.length:Int) - (sm3.length:Int)).toNat=N:=rG
 rw [hM]
 have hNs:sm4.length+1 - sm3.length=N:=rG
 rw [hNs] at hstart
 have hown:∀ r:List U32,r.length=N→OwnA (some ⟨b3,0,none⟩) N r []:=fun r hr=>.inr ⟨b3,rfl,by rw [hr];rfl,by omega,by simp only [maxLen];omega⟩
 have hc2:uL.length≤c2:=ho2.le
 have hownU:∀ r:List U32,r.length=uL.length→OwnA (some ⟨b2,0,none⟩) c2 r j2:=fun r hr=>by
  rcases ho2 with ⟨h,_⟩ | ⟨b',e,h5,h6,h7⟩
  · cases h
  exact .inr ⟨b',e,by rw [hr];exact h5,by rw [hr];exact h6,h7⟩
 refine iP 16 rfl (show _=Value.slice (some ⟨b3,0,none⟩) (List.replicate N (default:U32)).length N by rw [aE]) ?_
 refine iP 17 rfl (show _=Value.int .i64 ((N:Int) - 1) by congr 1;omega) ?_
 refine fS (ι:=Nat×List U32×List U32) (fun (k,q,R)=>([(17,.int .i64 ((k:Int) - 1)),(16,.slice (some ⟨b3,0,none⟩) q.length N),(13,.slice (some ⟨b2,0,none⟩) R.length c2),(15,.int .i64 (sm3.length:Int)),(11,.slice sa3 (List.length sm3) (List.length sm3)),(10,.int .i64 (↑sh:Int)),(6,.int .i64 0),(5,.slice none 0 0),(4,.slice none 0 0)],[(41,some b3,rV 166 q []),(40,some b2,rV 166 R j2),(0,some b1,rV (α:=Go.Sl.U32) 166 ([Go.Sl.U32.mk 0]) ([]))])) (fun (k,q,R)=>k≤N∧q.length=N∧Lims q∧R.length=uL.length∧Lims R∧rI sm4=rI q*rI sm3+rI R∧rI (R.drop k)<rI sm3∧∀ j,j<k→lg q j=0) (fun (k,q,R)=>k) ((N,List.replicate N (default:U32),uL)) (⟨aH _,aE,mU N,rfl,dU,by rw [show rI (List.replicate N (default:U32))=0 from xC N,gA,iU,huA],hstart,fun j _=>Ck N j⟩) fun ⟨k,q,R⟩=>fun hk=>?_
 obtain ⟨hk1,hqN,hdq,hRn,hdR,hval,hRlt,hqz⟩:=hk
 have hoq:=hown q hqN
 have hoR:=hownU R hRn
 rcases eQ k with rfl | hkp
 · rw [jE] at hRlt
   refine aM 17 [0] ?_
   refine cN 41 rfl hoq (fun G8 hle8 hAq=>cN 40 rfl hoR (fun G9 hle9 hAR=>?_))
   replace hAq:=hAq.up hle9
   refine bU 42 rfl (SY _ _ _ _ sh rH rH rG rG rG) fun v5 G5 Ho5 hle5 hp=>?_
   obtain ⟨sr5,rfl,⟨sa5,sm5,rfl,hsa5,hsl5,hst5,hsv5,hsn5⟩,rfl⟩:=hp
   replace hAR:=hAR.up hle5
   replace hAq:=hAq.up hle5
   refine aL 10 [] ?_
   refine bU 42 rfl (Fv _ _ _ _ rH rG tU) fun v6 G6 Ho6 hle6 hp=>?_
   obtain ⟨ta6,tm6,rfl,hta6,hte6,htr6,htl6,rfl,rfl⟩:=hp
   refine aY 7 [] ?_
   refine Ar.e3 ?_
   have hRn0:=sD hdR
   rw [hsv3,hsv4,hV] at hval
   rw [hsv3,hV] at hRlt
   obtain ⟨hd1,hd2,_⟩:=IR hP hval hRn0 hRlt
   exact ⟨_,_,rfl,nC hta6 hte6 htr6 hdq hd2 rG,zL ⟨sa5,sm5,rfl,hsa5,hsl5,hst5,by rw [hsv5,hd1],aH _⟩ db (dX _ hB),rfl⟩
 obtain ⟨i,rfl⟩:∃ i,k=i+1:=⟨k - 1,by omega⟩
 have ei:(((i+1:Nat):Int) - 1).toNat=i:=rG
 refine aM 21 [1] ?_
 refine aN (BQ T.sl87 rfl rfl rfl rG rG rG) ?_
 refine aA 1 [] ?_
 have hroom:=DF (n:=m+2) hdR hsl3 (show i<R.length by omega) hvl rG hRlt
 obtain ⟨p,hp⟩:∃ p,p=R.take i:=⟨_,rfl⟩
 obtain ⟨ww,hw⟩:∃ ww,ww=(R.drop i).take (m+3):=⟨_,rfl⟩
 obtain ⟨z,hz⟩:∃ z,z=R.drop (i+(m+3)):=⟨_,rfl⟩
 have hsplit:R=p++(ww++z):=by rw [hp,hw,hz];exact DE R i (m+3)
 have lp:p.length=i:=by rw [hp,bC];omega
 have lw:ww.length=m+3:=by rw [hw,bC,dM];omega
 have dw:Lims ww:=by rw [hw];exact (wT hdR i).take _
 obtain ⟨hr1,hr2⟩:=hroom
 rw [show m+2+1=m+3 by omega] at hr1 hr2
 rw [←hw] at hr1
 rw [←hz] at hr2
 refine jO 93 rfl (show _=Value.slice (some ⟨b2,p.length,none⟩) ww.length (c2 - i) by
  rw [ei,lp,lw]
  show Value.slice (if c2=i then (some ⟨b2,0,none⟩:Option Addr) else (some ⟨b2,0,none⟩:Option Addr).map (·.add (i*1))) _ _=_
  rw [aK (by omega),eU,add_lit,Nat.mul_one,cO]
  congr 1
  omega) ?_
 refine nO 40 (rV 166 (p++(ww++z)) j2) rfl (by rw [←hsplit]) ?_
 refine bU 40 rfl (SX _ b2 p ww z j2 _ _ _ sm3 m rH dw hsl3 rG lw hvl hvt hr1) fun r9 G9 Ho9 hle9 hp9=>?_
 obtain ⟨w9,g9,rfl,rfl,rfl,hg1,hg2,hwl,hwd,hwv,hwlt⟩:=hp9
 refine fP (α:=U32) T.sl87 ?_
 refine eT (z:=_) 41 T.size166 rfl rfl rfl rH rG rfl fun ho1=>?_
 refine aY 8 [] ?_
 have lz:z.length=R.length - (i+(m+3)):=by rw [hz,dM]
 have dz:Lims z:=by rw [hz];exact wT hdR _
 have dp:Lims p:=by rw [hp];exact hdR.take _
 have hwin:=IL p ww w9 z rG
 rw [←hsplit,lp,hwv,show rI ww - g9*rI sm3 - rI ww=-(g9*rI sm3) by omega] at hwin
 have lR:(p++(w9++z)).length=uL.length:=by rw [aI,aI];omega
 refine dC 17 rfl (show _=Value.int .i64 ((i:Int) - 1) by congr 1;omega) ?_
 refine iD 41 (rV 166 (q.set i (⟨g9⟩:U32)) []) rfl (by rw [ei]) ?_
 refine dC 16 rfl (show _=Value.slice (some ⟨b3,0,none⟩) (q.set i (⟨g9⟩:U32)).length N by rw [aG]) ?_
 refine dC 13 rfl (show _=Value.slice (some ⟨b2,0,none⟩) (p++(w9++z)).length c2 by rw [lR,hRn]) ?_
 refine cP ((i,q.set i (⟨g9⟩:U32),p++(w9++z))) ?_ ?_
 · refine ⟨by omega,by rw [aG];exact hqN,sE hdq _ ⟨hg1,hg2⟩,lR,dp.append (hwd.append dz),CU (q:=0) rG (hqz i rG) hval hwin,?_,fun j hj=>by rw [vR rG];exact hqz j rG⟩
   rw [eM rG,eC rG,fM,sW,hr2,cC,dB]
   exact hwlt
 show i<i+1
 omega
end
theorem IsBig.make {neg:Bool} {m:List U32} (hd:Lims m) (ht:Top m):IsBig (neg && decide (0<m.length)) m (if neg=true then -rI m else rI m):=by
 refine ⟨hd,ht,fun e=>by rw [e];simp,?_⟩
 by_cases h:0<m.length
 · simp [h]
 have e:m=[]:=bW rG
 rw [e];simp [sH]
theorem Big.make {G:Imm} {b:Option Addr} {c:Nat} {m:List U32} (neg:Bool) (hA:Arr G b m) (hd:Lims m) (ht:Top m) (hc:m.length≤c) {z:Int} (hz:z=if neg=true then -rI m else rI m):Big G ⟨neg && decide (0<m.length),b,m.length,c⟩ z:=
 ⟨m,rfl,hc,hA,hz▸IsBig.make hd ht⟩
abbrev mM:=@Big.make
theorem Big.len {G:Imm} {x:IV} {z:Int} (h:Big G x z) {m:Nat} (hz:(z.natAbs:Int)<pb m):x.n≤m:=by
 obtain ⟨l,h1,_,_,h4⟩:=h
 rw [←h1];exact h4.len hz
abbrev iC:=@Big.len
theorem Big.out {G:Imm} {x:IV} {z z':Int} (h:Big G x z) (e:z=z'):Big G x z':=e▸h
def Aa (z:Int):Int:=if z=0 then 0 else if z<0 then -1 else 1
theorem DG {z:Int} (h:z<0):Aa z=-1:=by unfold Aa;rw [aK (by omega),aR h]
theorem DH {z:Int} (h:0<z):Aa z=1:=by unfold Aa;rw [aK (by omega),aK (by omega)]
theorem DI {z:Int} (h:z=0):Aa z=0:=by unfold Aa;rw [aR h]
section
attribute [local irreducible] rI pb sB rZ
theorem Gp (G:Imm) (neg:Bool) (a:Option Addr) (n c:Nat) (hn:n≤1099511627776) :
 Does Tryz.prog 96 [.bool neg,.slice a n c] G [] (fun v G' Ho=>v=.agg #[.bool (neg && decide (0<n)),.slice a n c]∧G'=G∧Ho=[]):=by
 refine D0 Tryz.func96 Tryz.ntmps96 fun w=>?_
 have e:((0:Int)<(n:Int))=(0<n):=by rw [eq_iff_iff];omega
 cases neg
 · refine aM 2 [] ?_
   refine aU 0 rfl T.zero89 fun b1=>?_
   refine aL 11 [] ?_
   refine aN (gI (cs:=[_,_]) T.st89 rfl rfl rfl) ?_
   refine aY 4 [0] ?_
   refine dQ (.inr rfl) (Ho:=Hp.only _ []) rfl (.agg 0 rfl rfl T.agg89) (bP _ _) ?_
   exact ⟨by simp only [Bool.false_and],rfl,rfl⟩
 refine aM 2 [] ?_
 refine aU 0 rfl T.zero89 fun b1=>?_
 refine aL 14 [] ?_
 refine aN (gI (cs:=[_,_]) T.st89 rfl rfl rfl) ?_
 refine aY 4 [0] ?_
 refine dQ (.inr rfl) (Ho:=Hp.only _ []) rfl (.agg 0 rfl rfl T.agg89) (bP _ _) ?_
 exact ⟨by simp only [e,jT],rfl,rfl⟩
theorem TB (G:Imm) (neg:Bool) (a:Option Addr) (c:Nat) (l:List U32) (ha:Arr G a l) (hd:Lims l) (hb:l.length≤1073741824) (hc:l.length≤c) :
 Does Tryz.prog 100 [.bool neg,.slice a l.length c] G [] (fun v G' Ho=>∃ r:IV,v=.agg (Cells.enc r).toArray∧Big G' r (if neg=true then -rI l else rI l)∧Ho=[]):=by
 refine D0 Tryz.func100 Tryz.ntmps100 fun w=>?_
 refine aM 2 [] ?_
 refine aU 0 rfl T.zero89 fun b1=>?_
 refine aL 6 [] ?_
 refine bU 1 rfl (LY _ _ _ _ rH Hg Hg) fun v1 G1 Ho1 hle1 hp=>?_
 obtain ⟨na1,nm1,rfl,hna1,hne1,hnt1,hnl1,rfl⟩:=hp
 replace ha:=ha.up hle1
 refine cG rfl (Gp _ _ _ _ _ rG) ?_
 refine aY 4 [0] ?_
 refine dQ (.inr rfl) (Ho:=Hp.only _ []) rfl (.agg 0 rfl rfl T.agg89) (bP _ _) ?_
 refine ⟨⟨neg && decide (0<nm1.length),na1,nm1.length,nm1.length⟩,rfl,mM neg hna1 (uE hne1 hd) (zK hne1 hnt1) (aH _) (by rw [uJ hne1 hnt1]),rfl⟩
theorem c48 (G:Imm) (neg:Bool) (a:Option Addr) (c:Nat) (l:List U32) (z:Int) (h:IsBig neg l z) (h1:l.length≤1073741824) :
 Does Tryz.prog 48 [.agg #[.bool neg,.slice a l.length c]] G [] (fun v G' Ho=>v=.int .i64 (Aa z)∧G'=G∧Ho=[]):=by
 have hz:=h.zero_iff
 have hn:=h.neg_iff
 refine D0 Tryz.func48 Tryz.ntmps48 fun w=>?_
 by_cases h0:l.length=0
 · have hz0:=hz.1 h0
   refine aM 2 [] ?_
   refine cV 0 fun b1=>?_
   refine aY 23 [0,1] ?_
   refine bT ?_
   exact ⟨by rw [hz0];rfl,rfl,rfl⟩
 have hz0:z≠0:=fun e=>h0 (hz.2 e)
 by_cases hs:z<0
 · rw [hn,cR hs]
   refine aM 2 [] ?_
   refine cV 0 fun b1=>?_
   refine aY 31 [0,0,0,1] ?_
   refine bT ?_
   exact ⟨by unfold Aa;rw [aK hz0,aR hs],rfl,rfl⟩
 rw [hn,bF hs]
 refine aM 2 [] ?_
 refine cV 0 fun b1=>?_
 refine aY 32 [0,0,0,0] ?_
 refine bT ?_
 exact ⟨by unfold Aa;rw [aK hz0,aK hs],rfl,rfl⟩
theorem c55 (G:Imm) (x:IV) (z:Int) (hx:Big G x z) (h1:x.n≤1073741824) :
 Does Tryz.prog 55 [.agg (Cells.enc x).toArray] G [] (fun v G' Ho=>∃ r:IV,v=.agg (Cells.enc r).toArray∧Big G' r (-z)∧G'=G∧Ho=[]):=by
 obtain ⟨neg,a,n,c⟩:=x
 obtain ⟨l,hl,hlc,hA,hI⟩:=hx
 simp only at hl hlc hA hI h1
 subst hl
 show Does Tryz.prog 55 [.agg #[.bool neg,.slice a l.length c]] G [] _
 refine D0 Tryz.func55 Tryz.ntmps55 fun w=>?_
 refine aM 2 [] ?_
 refine cV 0 fun b1=>?_
 refine aU 1 rfl T.zero89 fun b2=>?_
 refine aL 9 [0,0] ?_
 refine cG rfl (Gp _ _ _ _ _ rG) ?_
 refine aY 4 [1] ?_
 refine dQ (.inr rfl) (Ho:=Hp.only _ []) rfl (.agg 1 rfl rfl T.agg89) (bP _ _) ?_
 refine ⟨⟨!neg && decide (0<l.length),a,l.length,c⟩,rfl,mM (!neg) hA hI.digs hI.top hlc ?_,rfl,rfl⟩
 rw [hI.val];cases neg <;> simp
theorem c58 (G:Imm) (x:IV) (z:Int) (hx:Big G x z) (h1:x.n≤1073741824) :
 Does Tryz.prog 58 [.agg (Cells.enc x).toArray] G [] (fun v G' Ho=>∃ r:IV,v=.agg (Cells.enc r).toArray∧Big G' r (z.natAbs:Int)∧G'=G∧Ho=[]):=by
 obtain ⟨neg,a,n,c⟩:=x
 obtain ⟨l,hl,hlc,hA,hI⟩:=hx
 simp only at hl hlc hA hI h1
 subst hl
 show Does Tryz.prog 58 [.agg #[.bool neg,.slice a l.length c]] G [] _
 refine D0 Tryz.func58 Tryz.ntmps58 fun w=>?_
 refine aM 2 [] ?_
 refine cV 0 fun b1=>?_
 refine aU 1 rfl T.zero89 fun b2=>?_
 refine aL 6 [0] ?_
 refine cG rfl (Gp _ _ _ _ _ rG) ?_
 refine aY 4 [1] ?_
 refine dQ (.inr rfl) (Ho:=Hp.only _ []) rfl (.agg 1 rfl rfl T.agg89) (bP _ _) ?_
 refine ⟨⟨false && decide (0<l.length),a,l.length,c⟩,rfl,mM false hA hI.digs hI.top hlc ?_,rfl,rfl⟩
 rw [aK (by decide),hI.abs]
theorem Qj (G:Imm) (x:IV) (z:Int) (hx:Big G x z) (h1:x.n≤1073741824) :
 Does Tryz.prog 48 [.agg (Cells.enc x).toArray] G [] (fun v G' Ho=>v=.int .i64 (Aa z)∧G'=G∧Ho=[]):=by
 obtain ⟨n1,a,k1,ca⟩:=x
 obtain ⟨la,hl,hlc,hA,hI⟩:=hx
 simp only at hl hlc hA hI h1
 subst hl
 exact c48 G n1 a ca la z hI h1
theorem c57 (G:Imm) (x y:IV) (zx zy:Int) (hx:Big G x zx) (hy:Big G y zy) (h1:x.n≤1073741824) (h2:y.n≤1073741824) :
 Does Tryz.prog 57 [.agg (Cells.enc x).toArray,.agg (Cells.enc y).toArray] G [] (fun v G' Ho=>v=.int .i64 (sB zx zy)∧G'=G∧Ho=[]):=by
 obtain ⟨n1,a,k1,ca⟩:=x
 obtain ⟨n2,b,k2,cb⟩:=y
 obtain ⟨la,hl,hlc,hA,hI⟩:=hx
 obtain ⟨lb,hl',hlc',hA',hI'⟩:=hy
 simp only at hl hlc hA hI hl' hlc' hA' hI' h1 h2
 subst hl hl'
 have da:=hI.digs
 have db:=hI'.digs
 have ta:=hI.top
 have tb:=hI'.top
 have va:=hI.abs
 have vb:=hI'.abs
 have na:=hI.neg_iff
 have nb:=hI'.neg_iff
 have cs:∀ u v:Int,u<v→sB u v=-1:=fun u v h=>wA h
 have cg:∀ u v:Int,v<u→sB u v=1:=fun u v h=>wQ h
 show Does Tryz.prog 57 [.agg #[.bool n1,.slice a la.length ca],.agg #[.bool n2,.slice b lb.length cb]] G [] _
 refine D0 Tryz.func57 Tryz.ntmps57 fun w=>?_
 by_cases sx:zx<0 <;> by_cases sy:zy<0
 · rw [na,nb,cR sx,cR sy]
   refine aM 2 [] ?_
   refine cV 0 fun b1=>?_
   refine cV 1 fun b2=>?_
   refine aL 25 [0,1,1,1,0] ?_
   refine cG rfl (KT _ _ _ _ _ _ _ rH rH rH rH rG rG rG rG) ?_
   refine aY 6 [] ?_
   refine bT ?_
   exact ⟨by rw [yO (x:=rI lb) (y:=rI la) (u:=zx) (v:=zy) rG rG],rfl,rfl⟩
 · rw [na,nb,cR sx,bF sy]
   refine aM 2 [] ?_
   refine cV 0 fun b1=>?_
   refine cV 1 fun b2=>?_
   refine aY 35 [0,1,0,0,1] ?_
   refine bT ?_
   exact ⟨by rw [cs zx zy rG],rfl,rfl⟩
 · rw [na,nb,bF sx,cR sy]
   refine aM 2 [] ?_
   refine cV 0 fun b1=>?_
   refine cV 1 fun b2=>?_
   refine aY 41 [0,0,0,0,1,1] ?_
   refine bT ?_
   exact ⟨by rw [cg zx zy rG],rfl,rfl⟩
 rw [na,nb,bF sx,bF sy]
 refine aM 2 [] ?_
 refine cV 0 fun b1=>?_
 refine cV 1 fun b2=>?_
 refine aL 42 [0,0,0,0,1,0,0,1] ?_
 refine cG rfl (KT _ _ _ _ _ _ _ rH rH rH rH rG rG rG rG) ?_
 refine aY 4 [] ?_
 refine bT ?_
 exact ⟨by rw [yO (x:=rI la) (y:=rI lb) (u:=zx) (v:=zy) rG rG],rfl,rfl⟩
theorem TC (G:Imm) (x y:IV) (zx zy:Int) (hx:Big G x zx) (hy:Big G y zy) (h1:x.n≤536870912) (h2:y.n≤536870912) :
 Does Tryz.prog 65 [.agg (Cells.enc x).toArray,.agg (Cells.enc y).toArray] G [] (fun v G' Ho=>∃ r:IV,v=.agg (Cells.enc r).toArray∧Big G' r (zx*zy)∧Ho=[]):=by
 obtain ⟨n1,a,k1,ca⟩:=x
 obtain ⟨n2,b,k2,cb⟩:=y
 obtain ⟨la,hl,hlc,hA,hI⟩:=hx
 obtain ⟨lb,hl',hlc',hA',hI'⟩:=hy
 simp only at hl hlc hA hI hl' hlc' hA' hI' h1 h2
 subst hl hl'
 have da:=hI.digs
 have db:=hI'.digs
 have ta:=hI.top
 have tb:=hI'.top
 show Does Tryz.prog 65 [.agg #[.bool n1,.slice a la.length ca],.agg #[.bool n2,.slice b lb.length cb]] G [] _
 refine D0 Tryz.func65 Tryz.ntmps65 fun w=>?_
 refine aM 2 [] ?_
 refine cV 0 fun b1=>?_
 refine cV 1 fun b2=>?_
 refine aU 2 rfl T.zero89 fun b3=>?_
 refine bR 3 [] ?_
 refine dT [0,1,2] [(2,11)] T.mixed [[0],[1,0],[2],[3,1]] ?_
 refine gR 4 [] rfl (Bv T.u4 rfl rfl) ?_
 refine eD [[5],[6,0],[7],[8,1]] ?_
 refine fE 9 ?_
 refine bU 3 rfl (SS _ _ _ _ _ _ _ rH rH rH rH rG rG) fun v1 G1 Ho1 hle1 hp=>?_
 obtain ⟨⟨ra1,rm1,rfl,hra1,hrl1,hrt1,hrv1,hrn1⟩,rfl⟩:=hp
 replace hA:=hA.up hle1
 replace hA':=hA'.up hle1
 refine bO 10 ?_
 refine cG rfl (Gp _ _ _ _ _ rG) ?_
 refine bO 11 ?_
 refine aA 1 [2] ?_
 refine fO ?_
 refine iG 2 [] ?_
 refine dQ (.inr rfl) (Ho:=Hp.only _ []) rfl (.agg 2 rfl rfl T.agg89) (bP _ _) ?_
 refine ⟨⟨decide (n1≠n2) && decide (0<rm1.length),ra1,rm1.length,rm1.length⟩,rfl,mM (decide (n1≠n2)) hra1 hrl1 hrt1 (aH _) ?_,rfl⟩
 rw [hrv1,hI.val,hI'.val]
 cases n1 <;> cases n2 <;> simp [oG,Int.mul_neg]
end
end Go.Proofs.YtngphgeghfdjbaaGreatDoor
