/- uN of the proof (part 6): what the rows' text needs of the texts that lead to it. -/
import Derived.Test.YtfdcckcadfhpeaaGreatDoorMRe
set_option linter.unusedVariables false
set_option linter.unusedSimpArgs false
set_option linter.unusedSectionVars false
set_option maxHeartbeats 4000000
set_option maxRecDepth 100000
namespace Go.Proofs.YtfdcckcadfhpeaaGreatDoor
open Go Go.Sl
def Cu (a:Int):Nat→Int→Int
 | 0,t=>t
 | k+1,t=>Cu a k t*a
theorem Gl (a:Int) (t:Int):∀ k,Cu a k t=t*a ^ k
 | 0=>by show t=t*a ^ 0;rw [iN,gH]
 | k+1=>by
   show Cu a k t*a=_
   rw [Gl a t k,fJ,cE]
def Cd (f:List Int) (a b:Int) (j:Nat):Int:=Cu b (f.length - 1 - j) (Cu a j (f[j]?.getD 0))
theorem Eh (f:List Int) (a b:Int) (j:Nat):Cd f a b j=f[j]?.getD 0*(a ^ j*b ^ (f.length - 1 - j)):=by
 unfold Cd
 rw [Gl,Gl,cE]
def Dc (f:List Int) (a b:Int):Nat→Int
 | 0=>0
 | j+1=>Dc f a b j+Cd f a b j
theorem Ox (c:Int) (f:List Int) (a b:Int):∀ j,Dc (c :: f) a b (j+1)=c*b ^ f.length+a*Dc f a b j
 | 0=>by
   show 0+Cd (c :: f) a b 0=c*b ^ f.length+a*0
   rw [Eh,jV,bL,eV,iN,cY]
   rfl
 | j+1=>by
   show Dc (c :: f) a b (j+1)+Cd (c :: f) a b (j+1)=c*b ^ f.length+a*(Dc f a b j+Cd f a b j)
   rw [Ox c f a b j,Eh,Eh,cF,Int.add_assoc]
   congr 2
   show f[j]?.getD 0*(a ^ (j+1)*b ^ (f.length+1 - 1 - (j+1)))=a*(f[j]?.getD 0*(a ^ j*b ^ (f.length - 1 - j)))
   rw [fJ,show f.length+1 - 1 - (j+1)=f.length - 1 - j by omega]
   ac_rfl
theorem Ew (a b:Int):∀ f:List Int,Dc f a b f.length=ev f a b
 | []=>rfl
 | c :: f=>by
   rw [aW,Ox,Ew a b f]
   rfl
theorem NB (a b x:Int):∀ (w:List Int) (k:Nat),k<w.length→ev (w.set k (w[k]?.getD 0+x)) a b=ev w a b+x*(a ^ k*b ^ (w.length - 1 - k))
 | c :: f,0,_=>by
   show (c+x)*b ^ f.length+a*ev f a b=(c*b ^ f.length+a*ev f a b)+x*(a ^ 0*b ^ f.length)
   rw [iN,cY,jW]
   omega
 | c :: f,k+1,h=>by
   have h':k<f.length:=by simpa using h
   show c*b ^ (f.set k (f[k]?.getD 0+x)).length+a*ev (f.set k (f[k]?.getD 0+x)) a b=(c*b ^ f.length+a*ev f a b)+x*(a ^ (k+1)*b ^ (f.length+1 - 1 - (k+1)))
   rw [NB a b x f k h',aG,fJ,show f.length+1 - 1 - (k+1)=f.length - 1 - k by omega,cF,Int.add_assoc]
   congr 2
   ac_rfl
def xI (xs ys:List Int) (i:Nat) (w:List Int):Nat→List Int
 | 0=>w
 | j+1=>(xI xs ys i w j).set (i+j) ((xI xs ys i w j)[i+j]?.getD 0+xs[i]?.getD 0*ys[j]?.getD 0)
theorem Ex (xs ys:List Int) (i:Nat) (w:List Int):∀ j,(xI xs ys i w j).length=w.length
 | 0=>rfl
 | j+1=>by
   show (List.set _ _ _).length=_
   rw [aG,Ex xs ys i w j]
def vN (xs ys:List Int) (n:Nat):Nat→List Int
 | 0=>List.replicate n 0
 | i+1=>xI xs ys i (vN xs ys n i) ys.length
theorem Cv (xs ys:List Int) (n:Nat):∀ i,(vN xs ys n i).length=n
 | 0=>aI
 | i+1=>by
   show (xI _ _ _ _ _).length=_
   rw [Ex,Cv xs ys n i]
theorem Zo {xs ys w:List Int} {i:Nat} (a b:Int) (hi:i<xs.length) (hn:xs.length+ys.length=w.length+1):∀ j,j≤ys.length→ev (xI xs ys i w j) a b=ev w a b+Cd xs a b i*Dc ys a b j
 | 0,_=>by
   show ev w a b=ev w a b+Cd xs a b i*0
   rw [bL,eV]
 | j+1,hj=>by
   show ev ((xI xs ys i w j).set (i+j) ((xI xs ys i w j)[i+j]?.getD 0+xs[i]?.getD 0*ys[j]?.getD 0)) a b=ev w a b+Cd xs a b i*(Dc ys a b j+Cd ys a b j)
   rw [NB a b _ _ _ (by rw [Ex];omega),Zo a b hi hn j sE,Ex,cF,Int.add_assoc]
   congr 2
   rw [Eh,Eh,Int.pow_add,show w.length - 1 - (i+j)=(xs.length - 1 - i)+(ys.length - 1 - j) by omega,Int.pow_add]
   ac_rfl
theorem Su {xs ys:List Int} {n:Nat} (a b:Int) (hn:xs.length+ys.length=n+1):∀ i,i≤xs.length→ev (vN xs ys n i) a b=Dc xs a b i*ev ys a b
 | 0,_=>by
   show ev (List.replicate n 0) a b=0*ev ys a b
   rw [Oj,dV]
 | i+1,hi=>by
   show ev (xI xs ys i (vN xs ys n i) ys.length) a b=(Dc xs a b i+Cd xs a b i)*ev ys a b
   rw [Zo a b sE (by rw [Cv];exact hn) _ (aH _),Su a b hn i sE,Ew,jW]
theorem SO {xs ys:List Int} {n:Nat} (a b:Int) (hn:xs.length+ys.length=n+1):ev (vN xs ys n xs.length) a b=ev xs a b*ev ys a b:=by
 rw [Su a b hn _ (aH _),Ew]
theorem Gn {a:Int} (ha:a.natAbs≤16) (t:Int):∀ k,(Cu a k t).natAbs≤t.natAbs*16 ^ k
 | 0=>by rw [Nat.pow_zero,Nat.mul_one];exact aH _
 | k+1=>by
   show (Cu a k t*a).natAbs≤_
   rw [eX,pW,←Nat.mul_assoc]
   exact fQ (Gn ha t k) ha
theorem ZP {k m:Nat} (h:k≤m):16 ^ k≤16 ^ m:=gU sN h
theorem NC {a b c:Int} {k m:Nat} (ha:a.natAbs≤16) (hb:b.natAbs≤16) (hc:c.natAbs≤9223372036854775808) (hkm:k+m≤14):(Cu b m (Cu a k c)).natAbs≤9223372036854775808*16 ^ 14:=by
 refine aV (Gn hb _ m) ?_
 refine aV (gV _ (Gn ha c k)) ?_
 rw [Nat.mul_assoc,←mP]
 exact fQ hc (ZP hkm)
theorem Sv {f:List Int} {a b:Int} (ha:a.natAbs≤16) (hb:b.natAbs≤16) (hf:∀ z∈f,z.natAbs≤9223372036854775808) (hl:f.length≤15):∀ j,j≤f.length→(Dc f a b j).natAbs≤j*(9223372036854775808*16 ^ 14)
 | 0,_=>by rw [pV];exact aH _
 | j+1,hj=>by
   have h1:=Sv ha hb hf hl j sE
   have h2:(Cd f a b j).natAbs≤9223372036854775808*16 ^ 14:=NC ha hb (by rw [aA sE];exact hf _ (bI _)) sE
   show (Dc f a b j+Cd f a b j).natAbs≤_
   rw [oK]
   exact aV (Int.natAbs_add_le _ _) (Nat.add_le_add h1 h2)
theorem XC {f:List Int} {a b:Int} (ha:a.natAbs≤16) (hb:b.natAbs≤16) (hf:∀ z∈f,z.natAbs≤9223372036854775808) (hl:f.length≤15):(ev f a b).natAbs≤15*(9223372036854775808*16 ^ 14):=by
 rw [←Ew]
 exact aV (Sv ha hb hf hl _ (aH _)) (gV _ hl)
theorem Kn {xs ys w:List Int} {i:Nat} {M:Nat} (hx:∀ z∈xs,z.natAbs≤9223372036854775808) (hy:∀ z∈ys,z.natAbs≤9223372036854775808) (hi:i<xs.length) (hw:∀ k:Nat,(w[k]?.getD 0).natAbs≤M):∀ j,j≤ys.length→∀ k:Nat,((xI xs ys i w j)[k]?.getD 0).natAbs≤M+9223372036854775808*9223372036854775808∧(i+j≤k→((xI xs ys i w j)[k]?.getD 0).natAbs≤M)
 | 0,_,k=>⟨aV (hw k) (Nat.le_add_right _ _),fun _=>hw k⟩
 | j+1,hj,k=>by
   have ih:=Kn hx hy hi hw j sE
   have e1:(xs[i]?.getD 0).natAbs≤9223372036854775808:=by rw [aA sE];exact hx _ (bI _)
   have e2:(ys[j]?.getD 0).natAbs≤9223372036854775808:=by rw [aA sE];exact hy _ (bI _)
   have e3:(xs[i]?.getD 0*ys[j]?.getD 0).natAbs≤9223372036854775808*9223372036854775808:=by rw [eX];exact fQ e1 e2
   have e4:=(ih (i+j)).2 (aH _)
   have hset:(xI xs ys i w (j+1))[k]?.getD 0=if i+j=k∧k<(xI xs ys i w j).length then (xI xs ys i w j)[i+j]?.getD 0+xs[i]?.getD 0*ys[j]?.getD 0 else (xI xs ys i w j)[k]?.getD 0:=by
    show ((xI xs ys i w j).set (i+j) _)[k]?.getD 0=_
    rw [cC]
    by_cases h:i+j=k
    · subst h
      by_cases h2:i+j<(xI xs ys i w j).length
      · simp only [h2,and_self,iD];rfl
      simp only [h2,and_false,jR,iD]
      rw [bP sE]
    simp only [h,false_and,jR]
   rw [hset]
   split
   · rename_i h
     exact ⟨aV (Int.natAbs_add_le _ _) (Nat.add_le_add e4 e3),fun h9=>by omega⟩
   exact ⟨(ih k).1,fun h9=>(ih k).2 sE⟩
theorem Gp {xs ys:List Int} {n:Nat} (hx:∀ z∈xs,z.natAbs≤9223372036854775808) (hy:∀ z∈ys,z.natAbs≤9223372036854775808):∀ i,i≤xs.length→∀ k:Nat,((vN xs ys n i)[k]?.getD 0).natAbs≤i*(9223372036854775808*9223372036854775808)
 | 0,_,k=>by
   show ((List.replicate n (0:Int))[k]?.getD 0).natAbs≤_
   rw [eL]
   split <;> simp
 | i+1,hi,k=>by
   have:=(Kn hx hy (w:=vN xs ys n i) (i:=i) sE (Gp hx hy i sE) ys.length (aH _) k).1
   rw [oK]
   exact this
theorem pb4:pb 4=340282366920938463463374607431768211456:=by unfold pb;decide
theorem ZQ {f:List Int} {a b:Int} (ha:a.natAbs≤16) (hb:b.natAbs≤16) (hf:∀ z∈f,z.natAbs≤9223372036854775808) (hl:f.length≤15):((ev f a b).natAbs:Int)<pb 4:=by
 have:=XC ha hb hf hl
 have e:15*(9223372036854775808*16 ^ 14)=9969209968386869046778552952102584320:=sN
 rw [e] at this
 rw [pb4]
 omega
def zY:List Int→List Int→Int
 | [],_=>0
 | _ :: _,[]=>0
 | c :: cs,x :: xs=>c*x+zY cs xs
theorem SP:∀ cs:List Int,zY cs []=0
 | []=>rfl
 | _ :: _=>rfl
theorem It {f:Int→Int} {k:Int} (hf:∀ x,f x=k*x):∀ cs xs:List Int,zY cs (xs.map f)=k*zY cs xs
 | [],_=>(bL k).symm
 | _ :: _,[]=>(bL k).symm
 | c :: cs,x :: xs=>by
   show c*f x+zY cs (xs.map f)=k*(c*x+zY cs xs)
   rw [It hf cs xs,hf,cF,eO]
theorem Vj {f:Int→Int→Int} {k:Int} (hf:∀ x y,f x y=x+k*y):∀ cs xs ys:List Int,xs.length=ys.length→zY cs (List.zipWith f xs ys)=zY cs xs+k*zY cs ys
 | [],_,_,_=>by show (0:Int)=0+k*0;rw [bL];rfl
 | _ :: _,[],[],_=>by show (0:Int)=0+k*0;rw [bL];rfl
 | _ :: _,[],_ :: _,h=>by cases h
 | _ :: _,_ :: _,[],h=>by cases h
 | c :: cs,x :: xs,y :: ys,h=>by
   show c*f x y+zY cs (List.zipWith f xs ys)=(c*x+zY cs xs)+k*(c*y+zY cs ys)
   rw [Vj hf cs xs ys (Nat.succ.inj h),hf,cF,cF,eO c k y]
   omega
theorem ET {k:Int}:∀ cs xs:List Int,xE k xs→zY cs xs=k*zY cs (xs.map (· / k))
 | [],_,_=>(bL k).symm
 | _ :: _,[],_=>(bL k).symm
 | c :: cs,x :: xs,h=>by
   have h0:x % k=0:=h 0 (Nat.succ_pos _)
   have h1:=ET cs xs (fun i hi=>h (i+1) (Nat.succ_lt_succ hi))
   have h2:k*(x / k)=x:=Int.mul_ediv_cancel' (Int.dvd_of_emod_eq_zero h0)
   show c*x+zY cs xs=k*(c*(x / k)+zY cs (xs.map (· / k)))
   rw [h1,cF,eO k c,h2]
theorem ND {k:Int} {cs xs:List Int} (h:xE k xs):zY cs xs % k=0∧zY cs xs / k=zY cs (xs.map (· / k)):=by
 rw [ET cs xs h]
 refine ⟨Int.mul_emod_right _ _,?_⟩
 by_cases hk:k=0
 · subst hk
   rw [dV,Int.ediv_zero,It (k:=0) (fun x=>by rw [Int.ediv_zero,dV]),dV]
 exact mJ _ hk
theorem Ko:∀ (cs:List Int) (n:Nat),zY cs (List.replicate n 0)=0
 | [],_=>rfl
 | _ :: _,0=>rfl
 | c :: cs,n+1=>by
   show c*0+zY cs (List.replicate n 0)=0
   rw [Ko,bL];rfl
theorem Oy:∀ (cs:List Int) (j:Nat),j<cs.length→zY cs ((List.replicate cs.length 0).set j 1)=cs[j]?.getD 0
 | c :: cs,0,_=>by
   show c*1+zY cs (List.replicate cs.length 0)=c
   rw [Ko];omega
 | c :: cs,j+1,h=>by
   show c*0+zY cs ((List.replicate cs.length 0).set j 1)=cs[j]?.getD 0
   rw [Oy cs j (Nat.lt_of_succ_lt_succ h)];omega
theorem HY (a b:Int) (n:Nat):wH a b (n+1)=b ^ n :: (wH a b n).map (fun x=>a*x):=by
 unfold wH
 rw [List.range_succ_eq_map,iH,iW,iW]
 congr 1
 · rw [iN,cY];rfl
 refine fT fun j hj=>?_
 show a ^ (j+1)*b ^ (n+1 - 1 - (j+1))=a*(a ^ j*b ^ (n - 1 - j))
 rw [fJ,show n+1 - 1 - (j+1)=n - 1 - j by omega]
 ac_rfl
theorem Vk (a b:Int):∀ f:List Int,zY f (wH a b f.length)=ev f a b
 | []=>rfl
 | c :: f=>by
   rw [aW,HY]
   show c*b ^ f.length+zY f ((wH a b f.length).map fun x=>a*x)=c*b ^ f.length+a*ev f a b
   rw [It (k:=a) (fun x=>rfl),Vk a b f]
theorem Mr {cs:List Int} {k:Nat} {rs:List (List Int)}:(rs.map (zY cs))[k]?.getD 0=zY cs (rs[k]?.getD []):=by
 rw [bN]
 cases rs[k]? with
 | none=>exact (SP cs).symm
 | some _=>rfl
theorem SQ (cs:List Int) {i:Sl.Instr} {rs:List (List Int)} {N:Nat} {x:List Int} (he:Flat N rs) (ha:Ov rs.length i) (h:wQ i rs=some x):wA i (rs.map (zY cs))=some (zY cs x):=by
 have la:=yJ he ha.1
 unfold wQ at h
 unfold wA
 simp only [Mr]
 by_cases h2:i.op=2
 · simp only [aF h2] at h ⊢
   cases h
   rw [It (k:=-1) (fun x=>rfl),fX,cY]
 simp only [aD h2] at h ⊢
 by_cases h3:i.op=3
 · have lb:=yJ he (ha.2 (.inl h3))
   simp only [aF h3] at h ⊢
   cases h
   rw [Vj (k:=1) (fun x y=>rfl) _ _ _ sE,cY]
 simp only [aD h3] at h ⊢
 by_cases h4:i.op=4
 · have lb:=yJ he (ha.2 (.inr h4))
   simp only [aF h4] at h ⊢
   cases h
   rw [Vj (k:=-1) (fun x y=>rfl) _ _ _ sE,fX,cY];rfl
 simp only [aD h4] at h ⊢
 by_cases h5:i.op=5∨i.op=7
 · simp only [aF h5] at h ⊢
   cases h
   rw [It (k:=cst i) (fun x=>rfl),cD]
 simp only [aD h5] at h ⊢
 by_cases h6:i.op=6∨i.op=8
 · simp only [aF h6] at h ⊢
   by_cases hd:xE (cst i) (rs[i.a.toNat]?.getD [])
   · rw [aF hd] at h
     cases h
     obtain ⟨e1,e2⟩:=ND (cs:=cs) hd
     rw [aF e1,e2]
   rw [aD hd] at h;cases h
 simp only [aD h6] at h ⊢
 cases h;rfl
theorem Zp (cs:List Int) {N:Nat}:∀ (l:List Sl.Instr) (rs:List (List Int)),Flat N rs→(∀ i∈l,Ov rs.length i)→∀ r',xP l rs=some r'→Vg l (rs.map (zY cs))=some (r'.map (zY cs))
 | [],rs,_,_,r',h=>by cases h;rfl
 | i :: l,rs,he,hi,r',h=>by
   have hm:=hi i bF
   unfold xP at h
   unfold Vg
   cases hd:wQ i rs with
   | none=>rw [hd] at h;cases h
   | some x =>
     rw [hd] at h
     have hx:=((Vh he hm.1 hm.2).1 x hd).1
     rw [SQ cs he hm hd]
     show Vg l ((rs.map (zY cs)).set i.to.toNat (zY cs x))=_
     rw [←List.map_set]
     exact Zp cs l _ (flat_set he hx) (fun q hq=>by rw [aG];exact hi q (aY _ hq)) r' h
theorem NE (cs:List Int) {p:PV} {gs:List (List Int)} (hz:gs.length≤p.regs.toNat):(uI p gs).map (zY cs)=tZ p (gs.map (zY cs)):=by
 apply gF
 intro k
 have hl:(tZ p (gs.map (zY cs))).length=p.regs.toNat:=by unfold tZ;rw [aC,aI,aP];omega
 have hl2:((uI p gs).map (zY cs)).length=p.regs.toNat:=by rw [aP,vM]
 rcases aK k p.regs.toNat with hk | hk
 · have e:∀ (l:List Int),k<l.length→l[k]?=some (l[k]?.getD 0):=fun l h=>by rw [aA h];rfl
   rw [e _ sE,e (tZ p (gs.map (zY cs))) sE]
   congr 1
   rw [Mr,Bx hk]
   unfold tZ
   split
   · rename_i h
     rw [bB (by rw [aP];exact h),Mr]
   rename_i h
   rw [bT Lk,Ko,eL]
   split <;> rfl
 rw [bP sE,bP sE]
theorem Oz (cs:List Int) {p:PV} {gs os:List (List Int)} {N:Nat} (hR:sH p=true) (hg:(gs.length:Int)=p.ins) (hN:Flat N gs) (h:sQ p gs=some os):xH p (gs.map (zY cs))=some (os.map (zY cs)):=by
 obtain ⟨f1,f2,f3,f4,f5,f6,f7,f8⟩:=sK hR
 have hfp:=Ev (p:=p) hN sE
 unfold sQ at h
 rw [xQ p gs _ (aH _),bC] at h
 obtain ⟨s,hs,h2⟩:=iL.1 h
 unfold xH
 rw [At p _ _ (aH _),bC,←NE cs sE,Zp cs p.code _ hfp (fun i hi=>Vi (f8 i hi) DN) s hs]
 show some (vK p (s.map (zY cs)))=some (os.map (zY cs))
 rw [←h2]
 unfold vK wG
 rw [iW]
 congr 1
 exact fT fun r _=>Mr
theorem NF {p:PV} {l:List R2} {xs:List Int} (hR:sH p=true) (h:uE p (xs.length:Int) l):xH p xs=some (l.map fun q=>ev xs q.a q.b):=by
 obtain ⟨h1,h2,h3,h4⟩:=h
 rw [aE] at h4
 have hf:Flat xs.length (uJ xs.length):=fun r hr=>by
  unfold uJ at hr
  obtain ⟨i,hi,rfl⟩:=dJ.1 hr
  exact yR _ i
 have h5:=Oz xs hR (by rw [xR,h1]) hf h4
 have e1:(uJ xs.length).map (zY xs)=xs:=by
  unfold uJ
  rw [iW]
  apply fB
  · rw [aP,bS]
  intro i g1 g2
  rw [fA,iV]
  show zY xs (tW xs.length i)=_
  unfold tW
  rw [Oy xs i g2,aA g2];rfl
 rw [e1,iW] at h5
 rw [h5]
 congr 1
 exact fT fun q _=>Vk q.a q.b xs
theorem XD {p:PV} {l:List R2} {cs:List Int} (h:tQ p l) (hc:cs.length=l.length):xH p (l.map fun q=>ev cs q.a q.b)=some cs:=by
 obtain ⟨h0,h1,h2,h3⟩:=h
 have hf:Flat l.length (vJ l):=fun r hr=>by
  unfold vJ at hr
  obtain ⟨q,hq,rfl⟩:=dJ.1 hr
  exact Dy _ _ _
 have h5:=Oz cs h0 (by unfold vJ;rw [aP,h1]) hf h3
 have e1:(vJ l).map (zY cs)=l.map fun q=>ev cs q.a q.b:=by
  unfold vJ
  rw [iW]
  refine fT fun q _=>?_
  show zY cs (wH q.a q.b l.length)=_
  rw [←hc];exact Vk q.a q.b cs
 have e2:((List.range l.length).map (tW l.length)).map (zY cs)=cs:=by
  rw [iW]
  apply fB
  · rw [aP,bS,hc]
  intro i g1 g2
  rw [fA,iV]
  show zY cs (tW l.length i)=_
  unfold tW
  rw [←hc,Oy cs i g2,aA g2];rfl
 rw [e1,e2] at h5
 exact h5
theorem Cw {k1 k2:Int} {l:List R2} {x y z:PV} (h:(tP k1 k2 l x y z).2=0):sU k1 k2 l=0∧sH x=true∧uE x k1 l∧sH y=true∧uE y k2 l∧sH z=true∧tQ z l:=by
 unfold tP at h
 by_cases h1:sU k1 k2 l=0
 · rw [aD (fun g=>g h1)] at h
   by_cases h2:sH x=true
   · rw [aD (fun g=>g h2)] at h
     by_cases h3:uE x k1 l
     · rw [aD (fun g=>g h3)] at h
       by_cases h4:sH y=true
       · rw [aD (fun g=>g h4)] at h
         by_cases h5:uE y k2 l
         · rw [aD (fun g=>g h5)] at h
           by_cases h6:sH z=true
           · rw [aD (fun g=>g h6)] at h
             by_cases h7:tQ z l
             · exact ⟨h1,h2,h3,h4,h5,h6,h7⟩
             rw [aF h7] at h;cases h
           rw [aF h6] at h;cases h
         rw [aF h5] at h;cases h
       rw [aF h4] at h;cases h
     rw [aF h3] at h;cases h
   rw [aF h2] at h;cases h
 rw [aF h1] at h;exact absurd h h1
theorem HZ {l:List R2} {x y z:PV} {xs ys:List Int} (h:(tP (xs.length:Int) (ys.length:Int) l x y z).2=0) :
 xH x xs=some (l.map fun q=>ev xs q.a q.b)∧xH y ys=some (l.map fun q=>ev ys q.a q.b)∧xH z (l.map fun q=>ev xs q.a q.b*ev ys q.a q.b)=some (vN xs ys l.length xs.length):=by
 obtain ⟨h1,h2,h3,h4,h5,h6,h7⟩:=Cw h
 obtain ⟨g1,g2,g3,g4⟩:=vE h1
 refine ⟨NF h2 h3,NF h4 h5,?_⟩
 have hn:xs.length+ys.length=l.length+1:=by have:=g1.1;omega
 have e:(l.map fun p=>ev xs p.a p.b*ev ys p.a p.b)=l.map fun p=>ev (vN xs ys l.length xs.length) p.a p.b:=fT fun p _=>(SO p.a p.b hn).symm
 rw [e]
 exact XD h7 (Cv _ _ _ _)
section
attribute [local irreducible] sI pb tY tF p2 cst wA
theorem c38 (G:Imm) (a:Option Addr) (c:Nat) (l:List Int) (ha:Arr G a l) (h1:l.length≤1048576) (hl:∀ x∈l,-9223372036854775808≤x∧x≤9223372036854775807) :
 Does Tryz.prog 38 [.slice a l.length c] G [] (fun v G' Ho=>∃ (b:Option Addr) (r:List IV) (c':Nat),v=.slice b r.length c'∧Arr G' b r∧Bigs G' r l∧r.length≤c'∧Ho=[]):=by
 refine fK Tryz.func38 rfl Tryz.ntmps38 rfl fun w=>?_
 refine dZ 9 (Row 125 ([]:List IV) []) ?_
 refine bJ 19 [] ?_
 refine iZ (ι:=Nat×Imm×List IV×(Option Addr×Nat×List Value)) (fun (i,Gx,r,(o,d,j))=>([(8,.int .i64 (i:Int)),(3,.slice o r.length d),(7,Go.Value.int Go.IntKind.i64 (↑(List.length l):Int)),(6,Go.Value.slice a (List.length l) c),(2,Go.Value.slice Option.none 0 0)],[(9,o.map (·.block),Row 125 r j)])) (fun (i,Gx,r,(o,d,j))=>Gx) (fun (i,Gx,r,(o,d,j))=>i≤l.length∧G.le Gx∧r.length=i∧Bigs Gx r (l.take i)∧OwnA o d r j) (fun (i,Gx,r,(o,d,j))=>l.length - i) ((0,G,[],(none,0,[]))) (⟨aM _,bK _,rfl,by rw [cM];exact Bigs.nil _,eD⟩) rfl ⟨rfl,rfl,rfl,rfl,rfl,trivial⟩ ⟨rfl,trivial⟩ fun ⟨i,Gx,r,(o,d,j)⟩=>fun hk=>?_
 obtain ⟨hi,hgx,hri,hbs,hob⟩:=hk
 replace ha:=ha.up hgx
 rcases aK i l.length with hil | hil
 · have hi9:-9223372036854775808≤l[(i:Int).toNat]?.getD default∧l[(i:Int).toNat]?.getD default≤9223372036854775807:=by
    rw [aE,aA hil];exact hl _ (bI hil)
   refine aJ 13 [1] ?_
   refine eG rfl (jA (α:=Int) T.sl66 rfl rfl sF sE) ?_
   refine eG rfl (cJ T.one2 rfl (iC sF sE 0 rfl rfl)) ?_
   refine aL 6 [] ?_
   refine bX 10 rfl (HE _ _ hi9) fun v1 G1 Ho1 hle1 hp=>?_
   obtain ⟨ro1,rfl,hro1,rfl⟩:=hp
   replace hbs:=hbs.up hle1
   replace ha:=ha.up hle1
   refine dY (α:=IV) 10 [(ro1)] rfl T.sl68 T.el125 rfl rfl rfl rfl rfl fun b1=>?_
   refine gM (α:=IV) 9 rfl T.sl68 T.el125 rfl rfl rfl Ff (fE 10 rfl) xF xF fun a1 c1 junk1 ho1=>?_
   refine aR 8 [] ?_
   refine fR ((i+1,G1,r++[ro1],(a1,c1,junk1))) ?_ ?_ rfl ⟨rfl,rfl,rfl,rfl,rfl,trivial⟩ ⟨rfl,trivial⟩
   · refine ⟨by omega,aQ hgx hle1,by rw [aC,hri];rfl,?_,ho1⟩
     have e:l.take (i+1)=l.take i++[l[(i:Int).toNat]?.getD default]:=by
      rw [cB,aE,aA hil];rfl
     rw [e]
     exact Bigs.snoc hbs hro1
   show l.length - (i+1)<l.length - i
   omega
 have hii:i=l.length:=sE
 subst hii
 refine bE 19 [0] ?_
 refine cQ 9 rfl hob fun G9 hle9 hA=>?_
 refine cK (.inr rfl) (Ho:=[]) rfl (.tmp rfl) trivial ?_
 refine ⟨o,r,d,rfl,hA,?_,hob.le,rfl⟩
 rw [bC] at hbs
 exact hbs.up hle9
theorem fh (G:Imm) (x y:IV) (zx zy:Int) (hx9:Big G x zx) (hy9:Big G y zy) (hx5:x.n≤1073741824) (hy5:y.n≤1073741824) :
 Does Tryz.prog 136 [.agg (Cells.enc x).toArray,.agg (Cells.enc y).toArray] G [] (fun v G' Ho=>v=.bool (decide (zx=zy))∧G'=G∧Ho=[]):=by
 refine fK Tryz.func136 rfl Tryz.ntmps136 rfl fun w=>?_
 refine aJ 2 [] ?_
 refine qM 0 rfl rfl rfl fun b1=>?_
 refine qM 1 rfl rfl rfl fun b2=>?_
 refine aL 7 [0,1] ?_
 refine cI rfl (WK _ _ _ _ _ hx9 hy9 hx5 hy5) ?_
 refine aR 5 [] ?_
 refine cP ?_
 exact ⟨by rw [rT.2 (show tY zx zy=0↔zx=zy from ⟨Sh,Mn⟩)],rfl,rfl⟩
theorem fj (G:Imm) (a b:Option Addr) (ca cb:Nat) (la lb:List IV) (za zb:List Int) (ha:Arr G a la) (hb:Arr G b lb) (hA:Bigs G la za) (hB:Bigs G lb zb) (h1:la.length≤1048576) (h2:lb.length≤1048576) (m:Nat) (hm:m≤268435456) (ba:Below m za) (bb:Below m zb) :
 Does Tryz.prog 135 [.slice a la.length ca,.slice b lb.length cb,.func (.func 136) #[] #[]] G [] (fun v G' Ho=>v=.bool (decide (za=zb))∧G'=G∧Ho=[]):=by
 have e1:=hA.1
 have e2:=hB.1
 refine fK Tryz.func135 rfl Tryz.ntmps135 rfl fun w=>?_
 by_cases hn:la.length=lb.length
 · refine bJ 27 [0] ?_
   refine gL (ι:=Nat) (fun i=>([(17,.int .i64 (i:Int)),(16,Go.Value.int Go.IntKind.i64 (↑(List.length la):Int)),(15,Go.Value.slice a (List.length la) ca),(1,Go.Value.slice b (List.length lb) cb),(2,Go.Value.func (Go.Fn.func 136) #[] #[])],[])) (fun i=>i≤la.length∧za.take i=zb.take i) (fun i=>la.length - i) (0) (⟨aM _,rfl⟩) ⟨rfl,rfl,rfl,rfl,rfl,trivial⟩ trivial fun i=>fun hk=>?_
   obtain ⟨hi,hz⟩:=hk
   rcases aK i la.length with hia | hia
   · have hx9:=hA.at (k:=(i:Int)) sE
     have hy9:=hB.at (k:=(i:Int)) sE
     have hx5:=aV (gJ hx9 (ba.at _)) (aV hm (show 268435456≤1073741824 by decide))
     have hy5:=aV (gJ hy9 (bb.at _)) (aV hm (show 268435456≤1073741824 by decide))
     refine aJ 14 [1] ?_
     refine eG rfl (jA (α:=IV) T.sl68 rfl rfl sF sE) ?_
     refine eG rfl (gZ T.agg125 rfl (jY sF sE) rfl) ?_
     refine aN 0 rfl T.zero125 fun b1=>?_
     refine aL 8 [0] ?_
     refine eG rfl (jA (α:=IV) T.sl68 rfl rfl sF sE) ?_
     refine eG rfl (gZ T.agg125 rfl (jY sF sE) rfl) ?_
     refine aN 1 rfl T.zero125 fun b2=>?_
     refine aL 8 [1,0,1] ?_
     refine eC (fst:=[]) (cap:=[]) 2 rfl T.fn136 rfl rfl (fh _ _ _ _ _ hx9 hy9 hx5 hy5) (sJ trivial) fun v1 G1 Ho1 hle1 hp=>?_
     obtain ⟨rfl,rfl,rfl⟩:=hp
     refine eG rfl (fF rfl) ?_
     refine aZ 2 [] ?_
     refine nK rfl (fun hc1=>?_) fun hc1=>?_
     refine bE 11 [] ?_
     refine cP ?_
     rotate_left
     refine bE 7 [] ?_
     rotate_left
     · exact ⟨by rw [bQ (fun h=>hc1 (by rw [h]))],rfl,rfl⟩
     refine fR (i+1) ?_ ?_ rfl ⟨rfl,rfl,rfl,rfl,rfl,trivial⟩ trivial
     · exact ⟨by omega,Si hz sE sE (eP.1 hc1)⟩
     omega
   have hii:i=la.length:=sE
   subst hii
   rw [dL sE,dL sE] at hz
   refine bE 18 [0] ?_
   refine cP ?_
   exact ⟨by rw [cA hz],rfl,rfl⟩
 have hne:za≠zb:=fun h=>hn (by rw [e1,e2,h])
 refine bE 23 [1] ?_
 refine cP ?_
 exact ⟨by rw [bQ hne],rfl,rfl⟩
theorem c76 (G:Imm) (a b:Option Addr) (ca cb:Nat) (la lb:List IV) (za zb:List Int) (ha:Arr G a la) (hb:Arr G b lb) (hA:Bigs G la za) (hB:Bigs G lb zb) (h1:la.length≤1048576) (h2:lb.length≤1048576) (m:Nat) (hm:m≤268435456) (ba:Below m za) (bb:Below m zb) :
 Does Tryz.prog 76 [.slice a la.length ca,.slice b lb.length cb] G [] (fun v G' Ho=>v=.bool (decide (za=zb))∧G'=G∧Ho=[]):=by
 refine fK Tryz.func76 rfl Tryz.ntmps76 rfl fun w=>?_
 refine aJ 9 [] ?_
 refine cI rfl (fj G _ _ _ _ _ _ za zb ha hb hA hB h1 h2 m hm ba bb) ?_
 refine aR 4 [] ?_
 refine cP ?_
 exact ⟨rfl,rfl,rfl⟩
theorem Cx {f:List Int} (h:∀ x∈f,-9223372036854775808≤x∧x≤9223372036854775807):∀ z∈f,z.natAbs≤9223372036854775808:=fun z hz=>by
 have:=h z hz;omega
theorem Ms {G:Imm} {x:IV} {z:Int} (h:Big G x z) (hz:z.natAbs<4294967296 ^ 8):x.n≤536870912:=
 aV (gJ h (m:=8) (by unfold pb;omega)) sN
theorem c77 (G:Imm) (a b:Option Addr) (ca cb:Nat) (la lb:List IV) (xs ys:List Int) (n:Nat) (ha:Arr G a la) (hb:Arr G b lb) (hA:Bigs G la xs) (hB:Bigs G lb ys) (hn:xs.length+ys.length=n+1) (hx1:1≤xs.length) (hyp:1≤ys.length) (hn15:n≤15) (hxf:∀ x∈xs,-9223372036854775808≤x∧x≤9223372036854775807) (hyf:∀ x∈ys,-9223372036854775808≤x∧x≤9223372036854775807) :
 Does Tryz.prog 77 [.slice a la.length ca,.slice b lb.length cb] G [] (fun v G' Ho=>∃ (o:Option Addr) (c:Nat) (q:List IV),v=.slice o q.length c∧Arr G' o q∧Bigs G' q (vN xs ys n xs.length)∧Ho=[]):=by
 have e1:=hA.1
 have e2:=hB.1
 refine fK Tryz.func77 rfl Tryz.ntmps77 rfl fun w=>?_
 refine aJ 13 [] ?_
 refine fV (α:=IV) 0 rfl T.sl68 T.el125 rfl rfl sE sE fun b1=>?_
 refine aZ 12 [] ?_
 refine iI 5 rfl (show _=Value.slice (some ⟨b1,0,none⟩) (List.replicate n (default:IV)).length n by rw [aI,aI,show ((la.length:Int)+(lb.length:Int) - 1).toNat=n by omega]) ?_
 refine pR 0 (Row 125 (List.replicate n (default:IV)) []) rfl (by rw [show ((la.length:Int)+(lb.length:Int) - 1).toNat=n by omega]) ?_
 have hown:∀ q:List IV,q.length=n→OwnA (some ⟨b1,0,none⟩) n q []:=fun q hq=>.inr ⟨b1,rfl,by rw [hq];rfl,by omega,by simp only [maxLen];omega⟩
 refine iZ (ι:=Nat×Imm×List IV) (fun (i,Gy,q)=>([(19,.int .i64 (i:Int)),(5,.slice (some ⟨b1,0,none⟩) q.length n),(18,Go.Value.int Go.IntKind.i64 (↑(List.length la):Int)),(17,Go.Value.slice a (List.length la) ca),(4,Go.Value.slice Option.none 0 0),(1,Go.Value.slice b (List.length lb) cb)],[(0,some b1,Row 125 q [])])) (fun (i,Gy,q)=>Gy) (fun (i,Gy,q)=>i≤xs.length∧G.le Gy∧q.length=n∧Bigs Gy q (vN xs ys n i)) (fun (i,Gy,q)=>xs.length - i) ((0,G,List.replicate n (default:IV))) (⟨aM _,bK _,aI,oX _ _⟩) rfl ⟨rfl,rfl,rfl,rfl,rfl,rfl,trivial⟩ ⟨rfl,trivial⟩ fun ⟨i,Gy,q⟩=>fun hk=>?_
 obtain ⟨hi2,hgy,hql,hqb⟩:=hk
 replace ha:=ha.up hgy
 replace hb:=hb.up hgy
 replace hA:=hA.up hgy
 replace hB:=hB.up hgy
 rcases aK i xs.length with hix | hix
 · have hila:i<la.length:=sE
   refine aJ 14 [1] ?_
   refine eG rfl (jA (α:=IV) T.sl68 rfl rfl sF sE) ?_
   refine eG rfl (gZ T.agg125 rfl (jY sF sE) rfl) ?_
   refine aN 1 rfl T.zero125 fun b2=>?_
   refine aZ 12 [1] ?_
   refine iZ (ι:=Nat×Imm×List IV) (fun (j,Gz,q)=>([(26,.int .i64 (j:Int)),(19,.int .i64 (i:Int)),(5,.slice (some ⟨b1,0,none⟩) q.length n),(1,.slice b lb.length cb),(17,.slice a la.length ca),(18,.int .i64 (la.length:Int)),(25,Go.Value.int Go.IntKind.i64 (↑(List.length lb):Int)),(24,Go.Value.slice b (List.length lb) cb),(6,Go.Value.int Go.IntKind.i64 (↑i:Int)),(7,Go.Value.pointer (Option.some (Go.Addr.mk b2 0 Option.none))),(4,Go.Value.slice Option.none 0 0)],[(0,some b1,Row 125 q []),(1,some b2,.cells (Cells.enc (la[(i:Int).toNat]?.getD default)).toArray 125)])) (fun (j,Gz,q)=>Gz) (fun (j,Gz,q)=>j≤ys.length∧Gy.le Gz∧q.length=n∧Bigs Gz q (xI xs ys i (vN xs ys n i) j)) (fun (j,Gz,q)=>ys.length - j) ((0,Gy,q)) (⟨aM _,bK _,hql,hqb⟩) rfl ⟨rfl,rfl,rfl,rfl,rfl,rfl,rfl,rfl,rfl,rfl,rfl,trivial⟩ ⟨rfl,rfl,trivial⟩ fun ⟨j,Gz,q⟩=>fun hk=>?_
   obtain ⟨hj2,hgz,hql,hqb⟩:=hk
   replace ha:=ha.up hgz
   replace hb:=hb.up hgz
   replace hA:=hA.up hgz
   replace hB:=hB.up hgz
   rcases aK j ys.length with hjy | hjy
   · have hjlb:j<lb.length:=sE
     have hx9:-9223372036854775808≤xs[(i:Int).toNat]?.getD 0∧xs[(i:Int).toNat]?.getD 0≤9223372036854775807:=by
      rw [aE,aA hix];exact hxf _ (bI hix)
     have hy9:-9223372036854775808≤ys[(j:Int).toNat]?.getD 0∧ys[(j:Int).toNat]?.getD 0≤9223372036854775807:=by
      rw [aE,aA hjy];exact hyf _ (bI hjy)
     have hor:=hown q hql
     have hxB:=hA.at (k:=(i:Int)) sE
     have hyB:=hB.at (k:=(j:Int)) sE
     have hij:0≤((i:Int)+(j:Int))∧((i:Int)+(j:Int))<q.length:=sE
     have hqB:=hqb.at hij
     have hxi:(xs[(i:Int).toNat]?.getD 0).natAbs≤9223372036854775808:=sE
     have hyj:(ys[(j:Int).toNat]?.getD 0).natAbs≤9223372036854775808:=sE
     have hxn:=Ms hxB sE
     have hyn:=Ms hyB sE
     have hxy:(xs[(i:Int).toNat]?.getD 0*ys[(j:Int).toNat]?.getD 0).natAbs<4294967296 ^ 8:=by
      rw [eX]
      exact Nat.lt_of_le_of_lt (fQ hxi hyj) sN
     have hqz:((xI xs ys i (vN xs ys n i) j)[((i:Int)+(j:Int)).toNat]?.getD 0).natAbs<4294967296 ^ 8:=by
      have h1:=(Kn (Cx hxf) (Cx hyf) hix (Gp (n:=n) (Cx hxf) (Cx hyf) i sE) j hj2 ((i:Int)+(j:Int)).toNat).1
      have h2:i*(9223372036854775808*9223372036854775808)≤15*(9223372036854775808*9223372036854775808):=gV _ sE
      have h3:(15*(9223372036854775808*9223372036854775808)+9223372036854775808*9223372036854775808:Nat)<4294967296 ^ 8:=sN
      omega
     have hqn:=Ms hqB hqz
     refine aJ 14 [1] ?_
     refine eG rfl (jA (α:=IV) T.sl68 rfl rfl sF sE) ?_
     refine eG rfl (gZ T.agg125 rfl (jY sF sE) rfl) ?_
     refine aN 2 rfl T.zero125 fun b3=>?_
     refine aZ 4 [2] ?_
     refine gQ [1,0,2] [(2,15),(0,15),(1,15)] T.mixed rfl ?_
     refine gO 0 [] [] ?_
     refine gO 1 [] [] ?_
     refine gO 2 [] [] ?_
     refine gO 3 [] [] ?_
     refine gO 4 [] [] ?_
     refine gO 5 [] [] ?_
     refine gO 6 [] [] ?_
     refine gO 7 [] [] ?_
     refine dN 8 [] rfl (dO (α:=IV) T.sl68 rfl rfl sF sE) ?_
     refine dN 9 [0] rfl (pK 0 T.agg125 rfl rfl sF sE) ?_
     refine gO 10 [1] [1] ?_
     refine gO 11 [2] [2] ?_
     refine bV 12 ?_
     refine bX 3 rfl (WL _ _ _ _ _ sF sF sF sF) fun v1 G1 Ho1 hle1 hp=>?_
     obtain ⟨rm1,rfl,hrm1,rfl⟩:=hp
     replace hqb:=hqb.up hle1
     replace ha:=ha.up hle1
     replace hb:=hb.up hle1
     replace hA:=hA.up hle1
     replace hB:=hB.up hle1
     replace hxB:=hxB.up hle1
     replace hyB:=hyB.up hle1
     replace hqB:=hqB.up hle1
     refine bD ?_
     refine bV 13 ?_
     refine bX 3 rfl (LW _ _ _ _ _ sF sF sF (Ms sF sF)) fun v2 G2 Ho2 hle2 hp=>?_
     obtain ⟨rs2,rfl,hrs2,rfl⟩:=hp
     replace hrm1:=hrm1.up hle2
     replace hqb:=hqb.up hle2
     replace ha:=ha.up hle2
     replace hb:=hb.up hle2
     replace hA:=hA.up hle2
     replace hB:=hB.up hle2
     replace hxB:=hxB.up hle2
     replace hyB:=hyB.up hle2
     replace hqB:=hqB.up hle2
     refine bD ?_
     refine dN 14 [] rfl (dO (α:=IV) T.sl68 rfl rfl sF sE) ?_
     refine bV 15 ?_
     refine cU (z:=rs2) (m:=(i:Int)+(j:Int)) 0 T.size125 rfl rfl rfl hor sE rfl fun ho1=>?_
     rw [show ((i:Int)+(j:Int)).toNat=i+j by omega] at *
     obtain ⟨r9,hr9⟩:∃ r9,r9=q.set (i+j) rs2:=⟨_,rfl⟩
     have hr9l:r9.length=q.length:=by rw [hr9,aG]
     have hq9:Bigs G2 r9 (xI xs ys i (vN xs ys n i) (j+1)):=by
      rw [hr9];exact hqb.set (i+j) hrs2
     rw [←hr9] at ho1 ⊢
     refine bD ?_
     refine jB sG trivial wJ ?_
     refine dX 6 [] ?_
     refine cN 5 rfl (show _=Value.slice (some ⟨b1,0,none⟩) r9.length n by rw [hr9l]) ?_
     refine fR ((j+1,G2,r9)) ?_ ?_ rfl ⟨rfl,rfl,rfl,rfl,rfl,rfl,rfl,rfl,rfl,rfl,rfl,trivial⟩ ⟨rfl,rfl,trivial⟩
     · exact ⟨by omega,aQ hgz (aQ hle1 hle2),by rw [hr9l];exact hql,hq9⟩
     show ys.length - (j+1)<ys.length - j
     omega
   have hjj:j=lb.length:=sE
   subst hjj
   have hqb2:Bigs Gz q (vN xs ys n (i+1)):=by
    show Bigs Gz q (xI xs ys i (vN xs ys n i) ys.length)
    rw [←e2];exact hqb
   refine bE 17 [0] ?_
   refine fR ((i+1,Gz,q)) ?_ ?_ rfl ⟨rfl,rfl,rfl,rfl,rfl,rfl,trivial⟩ ⟨rfl,trivial⟩
   · exact ⟨by omega,aQ hgy hgz,hql,hqb2⟩
   show xs.length - (i+1)<xs.length - i
   omega
 have hii:i=la.length:=sE
 subst hii
 have hor:=hown q hql
 refine bE 19 [0] ?_
 refine cQ 0 rfl hor fun G10 hle10 hAq=>?_
 refine cK (.inr rfl) (Ho:=[]) rfl (.tmp rfl) trivial ?_
 rw [e1] at hqb
 exact ⟨_,_,q,rfl,hAq,hqb.up hle10,rfl⟩
end
def Jl (to a c:Int):List Sl.Instr:=
 if c=1 then (if to=a then [] else [⟨1,to,a,0,0⟩]) else if c=-1 then [⟨2,to,a,0,0⟩] else if vR c=0 then [⟨5,to,a,0,c⟩] else [⟨7,to,a,0,vR c⟩]
def Iu (to c:Int):Int→Nat→List Sl.Instr
 | _,0=>[]
 | a,n+1=>Jl to a c++Iu to c to n
def EU (to tm b j:Int) (n:Nat):List Sl.Instr:=
 if b=1∨(b=-1∧n % 2=0) then [⟨3,to,to,j,0⟩] else if b=-1 then [⟨4,to,to,j,0⟩] else Iu tm b j n++[⟨3,to,to,tm,0⟩]
def JJ (k:Nat) (to tm a b:Int):Int→Nat→List Sl.Instr
 | _,0=>[]
 | fr,m+1=>Jl to fr a++(EU to tm b m (k - 1 - m)++JJ k to tm a b to m)
def Ba (k n i:Nat) (q:R2):List Sl.Instr:=
 if k=1 then [] else if q.a=0∧q.b=0 then [⟨4,(k:Int)+i,0,0,0⟩] else if q.a=0 then Iu ((k:Int)+i) q.b 0 (k - 1)
 else if q.b=0 then Iu ((k:Int)+i) q.a ((k:Int) - 1) (k - 1) else JJ k ((k:Int)+i) ((k:Int)+n) q.a q.b ((k:Int) - 1) (k - 1)
def Zq (k n:Nat):Nat→List R2→List Sl.Instr
 | _,[]=>[]
 | i,q :: l=>Ba k n i q++Zq k n (i+1) l
def IA (k i:Nat):Int:=if k=1 then 0 else (k:Int)+i
def wK (k:Nat) (l:List R2):PV:=⟨k,(k:Int)+l.length+1,Zq k l.length 0 l,(List.range l.length).map (IA k)⟩
theorem Zr (k n:Nat) (q:R2):∀ (l:List R2) (i:Nat),Zq k n i (l++[q])=Zq k n i l++Ba k n (i+l.length) q
 | [],i=>by show Ba k n i q++[]=[]++_;rw [bR];rfl
 | p :: l,i=>by
   show Ba k n i p++Zq k n (i+1) (l++[q])=(Ba k n i p++Zq k n (i+1) l)++_
   rw [Zr k n q l (i+1),bA,aW,show i+1+l.length=i+(l.length+1) by omega]
theorem SR {to a c:Int} (h:vR c≠0):cst ⟨7,to,a,0,vR c⟩=c:=by
 rcases Bu h with rfl | rfl | rfl | rfl | rfl | rfl | rfl | rfl | rfl <;> rfl
theorem Vm (to a c:Int) (σ:Int→Int):vH (Jl to a c) σ=some (upd σ to (c*σ a)):=by
 unfold Jl
 by_cases h1:c=1
 · rw [aF h1,h1,cY]
   by_cases h2:to=a
   · rw [aF h2,h2,Il];rfl
   rw [aD h2];rfl
 rw [aD h1]
 by_cases h3:c=-1
 · rw [aF h3,h3,fX,cY];rfl
 rw [aD h3]
 by_cases h4:vR c=0
 · rw [aF h4]
   exact (Cc (x:=σ a*c) rfl).trans (by rw [cD])
 rw [aD h4]
 refine (Cc (x:=σ a*c) ?_).trans (by rw [cD])
 show some (σ a*cst _)=_
 rw [SR h4]
theorem Mt (to c:Int):∀ (n:Nat) (a:Int) (σ:Int→Int),vH (Iu to c a (n+1)) σ=some (upd σ to (c ^ (n+1)*σ a))
 | 0,a,σ=>by
   show vH (Jl to a c++[]) σ=_
   rw [bR,Vm,fJ,iN,cY]
 | n+1,a,σ=>by
   refine tG (Vm to a c σ) ((Mt to c n to _).trans ?_)
   rw [Vd,uA,fJ c (n+1),cE]
theorem SS {to tm b j:Int} {n:Nat} (σ:Int→Int) (h1:tm≠to) (h2:j≠to) (hn:1≤n) :
 ∃ σ',vH (EU to tm b j n) σ=some σ'∧σ' to=σ to+b ^ n*σ j∧∀ r,r≠to→r≠tm→σ' r=σ r:=by
 unfold EU
 by_cases c1:b=1∨(b=-1∧n % 2=0)
 · rw [aF c1]
   refine ⟨_,Mp _ _ _ _,?_,fun r hr _=>tN _ _ hr⟩
   rw [uA]
   have:b ^ n=1:=by
    rcases c1 with rfl | ⟨rfl,h⟩
    · exact Int.one_pow
    rw [Ec,aF h]
   rw [this,cY]
 rw [aD c1]
 by_cases c2:b=-1
 · rw [aF c2]
   refine ⟨_,Im _ _ _ _,?_,fun r hr _=>tN _ _ hr⟩
   rw [uA,c2,Ec,aD (fun h=>c1 (.inr ⟨c2,h⟩)),fX,cY];rfl
 rw [aD c2]
 obtain ⟨m,rfl⟩:∃ m,n=m+1:=⟨n - 1,by omega⟩
 refine ⟨_,tG (Mt tm b m j σ) (Mp _ _ _ _),?_,fun r hr h=>?_⟩
 · rw [uA,uA,tN _ _ (lE h1)]
 rw [tN _ _ hr,tN _ _ h]
theorem EV {z:List Int} {m:Nat} (h:m<z.length) (a b:Int):ev (z.drop m) a b=z[m]?.getD 0*b ^ (z.length - 1 - m)+a*ev (z.drop (m+1)) a b:=by
 rw [dM h,aA h]
 show z[m]*b ^ (z.drop (m+1)).length+_=_
 rw [gE,show z.length - (m+1)=z.length - 1 - m by omega];rfl
theorem EW {k:Nat} {to tm a b:Int} {z:List Int} (hz:z.length=k) (h1:tm≠to) (ht:(k:Int)≤to) (htm:(k:Int)≤tm):∀ (m:Nat) (fr:Int) (σ:Int→Int),m+1≤k→(m=0→fr=to)→
 (∀ j:Nat,j<k→σ j=z[j]?.getD 0)→σ fr=ev (z.drop m) a b→∃ σ',vH (JJ k to tm a b fr m) σ=some σ'∧σ' to=ev z a b∧∀ r,r≠to→r≠tm→σ' r=σ r
 | 0,fr,σ,_,hf,_,hs=>⟨σ,rfl,by rw [←hf rfl,hs];rfl,fun _ _ _=>rfl⟩
 | m+1,fr,σ,hm,_,hr,hs=>by
   obtain ⟨σ2,e1,e2,e3⟩:=SS (to:=to) (tm:=tm) (b:=b) (j:=(m:Int)) (n:=k - 1 - m) (upd σ to (a*σ fr)) h1 sE sE
   rw [uA,tN _ _ sE,hr m sE] at e2
   obtain ⟨σ3,f1,f2,f3⟩:=EW hz h1 ht htm m to σ2 sE (fun _=>rfl) (fun j hj=>by rw [e3 _ sE sE,tN _ _ sE];exact hr j hj) (by
    rw [e2,hs,EV (z:=z) (m:=m) sE a b,hz,cD (b ^ (k - 1 - m)),rQ])
   refine ⟨σ3,tG (Vm to fr a σ) (tG e1 f1),f2,fun r g1 g2=>?_⟩
   rw [f3 r g1 g2,e3 r g1 g2,tN _ _ g1]
theorem Zs (a:Int):∀ z:List Int,1≤z.length→ev z a 0=a ^ (z.length - 1)*z[z.length - 1]?.getD 0
 | [],h=>absurd h tR
 | [c],_=>by simp [ev]
 | c :: d :: f,_=>by
   have ih:=Zs a (d :: f) tR
   show c*0 ^ (d :: f).length+a*ev (d :: f) a 0=_
   rw [ih]
   simp only [aW,jJ]
   rw [rL sE,bL,jV,iE,fJ a f.length,cD (a ^ f.length) a,cE]
theorem EX (b:Int) {z:List Int} (h:1≤z.length):ev z 0 b=b ^ (z.length - 1)*z[0]?.getD 0:=by
 cases z with
 | nil=>simp at h
 | cons c f =>
   show c*b ^ f.length+0*_=_
   rw [dV,eV,cD];rfl
theorem NG {k n i:Nat} {q:R2} {z:List Int} (hz:z.length=k) (h1:1≤k) (hi:i<n) (σ:Int→Int) (hr:∀ j:Nat,j<k→σ j=z[j]?.getD 0) :
 ∃ σ',vH (Ba k n i q) σ=some σ'∧(k≠1→σ' ((k:Int)+i)=ev z q.a q.b)∧∀ r,r≠(k:Int)+i→r≠(k:Int)+n→σ' r=σ r:=by
 unfold Ba
 by_cases hk:k=1
 · rw [aF hk];exact ⟨σ,rfl,fun h=>absurd hk h,fun _ _ _=>rfl⟩
 rw [aD hk]
 by_cases c1:q.a=0∧q.b=0
 · rw [aF c1]
   refine ⟨_,Im _ _ _ _,fun _=>?_,fun r hr _=>tN _ _ hr⟩
   rw [uA,rM,c1.1,c1.2,EX 0 sE,rL sE,dV]
 rw [aD c1]
 obtain ⟨m,hm⟩:∃ m,k - 1=m+1:=⟨k - 2,by omega⟩
 by_cases c2:q.a=0
 · rw [aF c2,hm]
   refine ⟨_,Mt _ _ m _ σ,fun _=>?_,fun r hr _=>tN _ _ hr⟩
   have:=hr 0 sE
   rw [uA,c2,EX _ sE,hz,hm,←this];rfl
 rw [aD c2]
 by_cases c3:q.b=0
 · rw [aF c3,hm]
   refine ⟨_,Mt _ _ m _ σ,fun _=>?_,fun r hr _=>tN _ _ hr⟩
   have:=hr (k - 1) sE
   rw [show ((k - 1:Nat):Int)=(k:Int) - 1 by omega] at this
   rw [uA,c3,Zs _ _ sE,hz,this,hm]
 rw [aD c3]
 obtain ⟨σ',e1,e2,e3⟩:=EW (k:=k) (to:=(k:Int)+i) (tm:=(k:Int)+n) (a:=q.a) (b:=q.b) hz sE sE sE (k - 1) ((k:Int) - 1) σ sE (fun h=>by omega) hr (by
  have:=hr (k - 1) sE
  rw [show ((k - 1:Nat):Int)=(k:Int) - 1 by omega] at this
  rw [this,EV sE,eU sE,hz,hJ,iN,gH]
  show _=_+q.a*0
  rw [bL,eV])
 exact ⟨σ',e1,fun _=>e2,e3⟩
theorem EY {k:Nat} (n:Nat) {z:List Int} (hz:z.length=k) (h1:1≤k):∀ (l:List R2) (i:Nat) (σ:Int→Int),i+l.length≤n→(∀ j:Nat,j<k→σ j=z[j]?.getD 0)→
 ∃ σ',vH (Zq k n i l) σ=some σ'∧(k≠1→∀ t:Nat,t<l.length→σ' ((k:Int)+((i+t:Nat):Int))=ev z (l[t]?.getD default).a (l[t]?.getD default).b)∧∀ r:Int,r<(k:Int)+i→σ' r=σ r
 | [],i,σ,_,_=>⟨σ,rfl,fun _ t ht=>absurd ht tR,fun _ _=>rfl⟩
 | q :: l,i,σ,hi,hr=>by
   rw [aW] at hi
   obtain ⟨σ1,e1,e2,e3⟩:=NG (q:=q) (n:=n) hz h1 (show i<n by omega) σ hr
   obtain ⟨σ2,f1,f2,f3⟩:=EY n hz h1 l (i+1) σ1 sE (fun j hj=>by rw [e3 _ sE sE];exact hr j hj)
   refine ⟨σ2,tG e1 f1,fun hk t ht=>?_,fun r hr=>by rw [f3 r sE,e3 r sE sE]⟩
   cases t with
   | zero =>
     rw [jU,f3 _ sE,e2 hk];rfl
   | succ t =>
     rw [aW] at ht
     have:=f2 hk t sE
     rw [show i+1+t=i+(t+1) by omega] at this
     exact this
theorem SU {to a c R:Int} (h1:0≤to∧to<R) (h2:0≤a∧a<R) (hc:1≤c∧c≤64):sP ⟨7,to,a,0,c⟩ R=true:=by
 unfold sP
 rw [aU,aU,aS,eJ]
 refine ⟨⟨(show 1≤(7:Int)∧(7:Int)≤8∧0≤to∧to<R∧((7:Int)=3∨(7:Int)=4∨(0:Int)=0) by omega),?_⟩,fun r hr=>?_⟩
 · unfold sT
   rw [aD (show ¬((7:Int)=5∨(7:Int)=6) by omega),aF (show ((7:Int)=7∨(7:Int)=8) by omega),aS];exact hc
 rw [aS]
 unfold sS at hr
 rw [aD (show ¬((7:Int)=3∨(7:Int)=4) by omega),aF (show 1≤(7:Int)∧(7:Int)≤8 by omega)] at hr
 rw [eQ.1 hr];exact h2
theorem Mu {R:Int} {i:Sl.Instr} (h:sP i R=true) (hd:¬(i.op=6∨i.op=8)):Good R 1 0 [i]:=(oV h).mono (aH _) (mW (aD hd))
theorem Zt {R to a c:Int} (h1:0≤to∧to<R) (h2:0≤a∧a<R) (hc:c≠0∧-512≤c∧c≤512):Good R 1 0 (Jl to a c):=by
 unfold Jl
 split
 · split
   · exact (iA R).mono sE (aH _)
   exact Mu (Eu (.inl rfl) h1 h2) (by show ¬((1:Int)=6∨(1:Int)=8);decide)
 split
 · exact Mu (Eu (.inr rfl) h1 h2) (by show ¬((2:Int)=6∨(2:Int)=8);decide)
 split
 · exact Mu (Kk (.inl rfl) h1 h2 hc) (by show ¬((5:Int)=6∨(5:Int)=8);decide)
 rename_i hp
 refine Mu (SU h1 h2 ?_) (by show ¬((7:Int)=6∨(7:Int)=8);decide)
 rcases Bu hp with rfl | rfl | rfl | rfl | rfl | rfl | rfl | rfl | rfl <;> decide
theorem Iv {R to c:Int} (h1:0≤to∧to<R) (hc:c≠0∧-512≤c∧c≤512):∀ (n:Nat) (a:Int),0≤a∧a<R→Good R n 0 (Iu to c a n)
 | 0,_,_=>iA R
 | n+1,a,h2=>((Zt h1 h2 hc).append (Iv h1 hc n to h1)).mono sE (aH _)
theorem NH {R to tm b j:Int} {n:Nat} (h1:0≤to∧to<R) (h2:0≤tm∧tm<R) (h3:0≤j∧j<R) (hb:b≠0∧-512≤b∧b≤512):Good R (n+1) 0 (EU to tm b j n):=by
 unfold EU
 split
 · exact (Io h1 h1 h3).mono sE (aH _)
 split
 · exact (Ed h1 h1 h3).mono sE (aH _)
 exact (Iv h2 hb n j h3).append (Io h1 h1 h2)
theorem Zu {k:Nat} {R to tm a b:Int} (h1:0≤to∧to<R) (h2:0≤tm∧tm<R) (hk:(k:Int)≤R) (ha:a≠0∧-512≤a∧a≤512) (hb:b≠0∧-512≤b∧b≤512) :
 ∀ (m:Nat) (fr:Int),m+1≤k→0≤fr∧fr<R→Good R (m*(k+1)) 0 (JJ k to tm a b fr m)
 | 0,_,_,_=>(iA R).mono (aM _) (aH _)
 | m+1,fr,hm,h3=>((Zt h1 h3 ha).append ((NH (n:=k - 1 - m) h1 h2 sE hb).append (Zu h1 h2 hk ha hb m to sE h1))).mono (by rw [oK];omega) (aH _)
theorem IB {k n i:Nat} {q:R2} (h1:1≤k) (h8:k≤8) (hi:i<n) (hq:near q.a q.b):Good ((k:Int)+n+1) 63 0 (Ba k n i q):=by
 have hq':-16≤q.a∧q.a≤16∧-16≤q.b∧q.b≤16:=by unfold near at hq;omega
 unfold Ba
 by_cases hk:k=1
 · rw [aF hk];exact (iA _).mono (aM _) (aH _)
 rw [aD hk]
 by_cases c1:q.a=0∧q.b=0
 · rw [aF c1];exact (Ed sE sE sE).mono sE (aH _)
 rw [aD c1]
 by_cases c2:q.a=0
 · rw [aF c2];exact (Iv sE sE _ _ sE).mono sE (aH _)
 rw [aD c2]
 by_cases c3:q.b=0
 · rw [aF c3];exact (Iv sE sE _ _ sE).mono sE (aH _)
 rw [aD c3]
 exact (Zu sE sE sE sE sE _ _ sE sE).mono (aV (fQ (show k - 1≤7 by omega) (show k+1≤9 by omega)) (aH _)) (aH _)
theorem Pa {k n:Nat} (h1:1≤k) (h8:k≤8):∀ (l:List R2) (i:Nat),i+l.length≤n→(∀ q∈l,near q.a q.b)→Good ((k:Int)+n+1) (63*l.length) 0 (Zq k n i l)
 | [],_,_,_=>iA _
 | q :: l,i,hi,hq=>by
   rw [aW] at hi
   exact ((IB h1 h8 (show i<n by omega) (hq q bF)).append (Pa h1 h8 l (i+1) sE fun p hp=>hq p (aY _ hp))).mono Wy (aH _)
def Pb (k:Nat) (l:List R2):Prop:=1≤k∧k≤8∧1≤l.length∧l.length≤15∧Dz l
theorem Sw {l:List R2} (h:Dz l):∀ q∈l,near q.a q.b:=fun q hq=>by
 obtain ⟨i,hi,rfl⟩:=fL.1 hq
 have:=h i hi
 rw [aA hi] at this;exact this
theorem Kp {k:Nat} {l:List R2} (h:Pb k l):Good ((k:Int)+l.length+1) (63*l.length) 0 (Zq k l.length 0 l):=Pa h.1 h.2.1 l 0 sE (Sw h.2.2.2.2)
theorem Pc {k:Nat} {l:List R2} (h:Pb k l):sH (wK k l)=true:=by
 have hg:=Kp h
 obtain ⟨h1,h2,h3,h4,h5⟩:=h
 have hgl:=hg.len
 have hol:(wK k l).outs.length=l.length:=by show ((List.range l.length).map _).length=_;rw [aP,bS]
 refine Kj ⟨by show (1:Int)≤k;omega,by show (k:Int)≤(k:Int)+l.length+1;omega,by show (k:Int)+l.length+1≤128;omega,aV hgl sE,by omega,by omega⟩ (fun r hr=>?_) hg.fit
 obtain ⟨i,hi,rfl⟩:=dJ.1 (show r∈(List.range l.length).map (IA k) from hr)
 have:=iM.1 hi
 show 0≤IA k i∧IA k i<(k:Int)+l.length+1
 unfold IA
 split <;> omega
theorem SW {l:List Sl.Instr} (h:Vc l≤0):∀ i∈l,¬(i.op=6∨i.op=8):=fun i hi hd=>by
 unfold Vc at h
 have:(l.filter fun i=>Yz i)=[]:=List.length_eq_zero_iff.1 (qP.1 h)
 rw [List.filter_eq_nil_iff] at this
 exact this i hi (cA hd)
theorem NI {k:Nat} {l:List R2} (h:Pb k l) {z:List Int} (hz:z.length=k):xH (wK k l) z=some (l.map fun q=>ev z q.a q.b):=by
 have hg:=Kp h
 obtain ⟨h1,h2,h3,h4,h5⟩:=h
 generalize hrs:tZ (wK k l) z=rs
 have hrl:(rs.length:Int)=(k:Int)+l.length+1:=by
  rw [←hrs];unfold tZ
  rw [aC,aI,hz]
  show ((k+(((k:Int)+l.length+1).toNat - k):Nat):Int)=_
  omega
 have hr0:∀ i,i<k→rs[i]?.getD 0=z[i]?.getD 0:=fun i hi=>by
  rw [←hrs];unfold tZ
  rw [bB sE]
 obtain ⟨σ',e1,e2,e3⟩:=EY l.length hz h1 l 0 (fun r=>rs[r.toNat]?.getD 0) sE (fun j hj=>by rw [aE];exact hr0 j hj)
 obtain ⟨rs',c1,c2,c3⟩:=Ow (Zq k l.length 0 l) (fun r=>rs[r.toNat]?.getD 0) σ' rs hg.fit hrl (fun r _ _=>rfl) e1
 unfold xH
 rw [At _ _ _ (aH _),bC,hrs]
 show (Vg (Zq k l.length 0 l) rs).map (vK (wK k l))=_
 rw [c1]
 show some (vK (wK k l) rs')=_
 congr 1
 unfold vK wK
 simp only
 apply fB
 · rw [aP,aP,bS,aP]
 intro j g1 g2
 rw [aP] at g2
 rw [fA,fA,iV,fA]
 unfold IA
 by_cases hk:k=1
 · rw [aF hk]
   have:=c3 0 sE sE
   show rs'[(0:Int).toNat]?.getD 0=_
   rw [←this,e3 0 sE]
   show rs[(0:Int).toNat]?.getD 0=_
   rw [show (0:Int).toNat=0 from rfl,hr0 0 sE]
   cases z with
   | nil=>simp at hz;omega
   | cons c f =>
     cases f with
     | nil=>simp [ev]
     | cons d f=>simp at hz;omega
 rw [aD hk,←c3 _ sE sE]
 have:=e2 hk j g2
 rw [dC] at this
 rw [this,aA g2];rfl
theorem Sx {k:Nat} {l:List R2} (h:Pb k l):uE (wK k l) k l:=by
 have hol:(wK k l).outs.length=l.length:=by show ((List.range l.length).map _).length=_;rw [aP,bS]
 refine ⟨rfl,hol,SW (Kp h).dv,?_⟩
 rw [aE]
 refine Eg (N:=k) (Pc h) (by rw [xR];rfl) (fun r hr=>?_) (by rw [aP,hol]) (fun r hr=>?_) fun j hj=>?_
 · unfold uJ at hr
   obtain ⟨i,hi,rfl⟩:=dJ.1 hr
   exact yR k i
 · obtain ⟨q,hq,rfl⟩:=dJ.1 hr
   exact Dy _ _ _
 have e1:Bq j (uJ k)=tW k j:=by
  refine gF fun i=>?_
  rcases aK i k with hi | hi
  · have hl1:i<(Bq j (uJ k)).length:=by rw [yI,xR];exact hi
    have hl2:i<(tW k j).length:=by rw [yR];exact hi
    have h1:(Bq j (uJ k))[i]?.getD 0=(tW k j)[i]?.getD 0:=by
     rw [Ef,HO hi]
     unfold tW
     rw [cC,cC,eL,eL,aI]
     by_cases hij:i=j
     · subst hij;rw [aF rfl,aF hj]
     rw [aD hij,aD (lE hij),aF hi,aF hj]
    rw [aA hl1,aA hl2] at h1 ⊢
    exact congrArg some h1
  rw [bP (by rw [yI,xR];exact hi),bP (by rw [yR];exact hi)]
 rw [e1,NI h (yR k j)]
 congr 1
 unfold Bq
 rw [iW]
 apply fT
 intro q hq
 show ev (tW k j) q.a q.b=(wH q.a q.b k)[j]?.getD 0
 rw [Zm hj]
 unfold wH
 rw [bN,eR hj];rfl
section
attribute [local irreducible] sI pb tY tF
theorem Kq {G:Imm} {l:List IV} {zs:List Int} {r:IV} {z:Int} (h:Bigs G l zs) (hr:Big G r z):Bigs G (l++[r]) (zs++[z]):=by
 have e1:=h.1
 refine ⟨by rw [aC,aC,e1];rfl,fun i hi=>?_⟩
 rw [aC,iU] at hi
 rcases aK i l.length with h3 | h3
 · rw [bB h3,bB sE];exact h.2 i h3
 have h4:i=l.length:=sE
 subst h4
 rw [bT (aH _),bT sE,e1,hJ];exact hr
def EZ (P:Nat→Int) (n:Nat):List Int:=(List.range n).map P
theorem Pd (P:Nat→Int) (n:Nat):EZ P (n+1)=EZ P n++[P n]:=by unfold EZ;rw [nY,jP];rfl
theorem VI (G:Imm) (a:Option Addr) (c:Nat) (xs:List IV) (g:Nat) (fst:List Value) (P:Nat→Int) (hg:tH Tryz.prog g) (ha:Arr G a xs) (hl:xs.length≤1048576)
 (hf:∀ k:Nat,k<xs.length→∀ G',G.le G'→Does Tryz.prog g (fst++[.agg (Cells.enc (xs[((k:Nat):Int).toNat]?.getD default)).toArray]++[]) G' [] (fun v G'' Ho=>∃ r:IV,v=.agg (Cells.enc r).toArray∧Big G'' r (P k)∧Ho=[])) :
 Does Tryz.prog 265 [.slice a xs.length c,.func (.func g) fst.toArray #[]] G [] (fun v G' Ho=>∃ (s:Option Addr) (r:List IV) (d:Nat),v=.slice s r.length d∧Arr G' s r∧r.length≤d∧Bigs G' r (EZ P xs.length)∧Ho=[]):=by
 refine D0 Tryz.func265 Tryz.ntmps265 fun w=>?_
 refine dZ 9 (Row 125 ([]:List IV) []) ?_
 refine bJ 19 [] ?_
 refine iZ (ι:=Nat×Imm×List IV×(Option Addr×Nat×List Value)) (fun (k,Gx,r,(o,d,j))=>([(10,.int .i64 (k:Int)),(5,.slice o r.length d),(9,.int .i64 (xs.length:Int)),(8,.slice a (List.length xs) c),(4,.slice none 0 0),(1,.func (Go.Fn.func g) (List.toArray fst) #[])],[(9,o.map (·.block),Row 125 r j)])) (fun (k,Gx,r,(o,d,j))=>Gx) (fun (k,Gx,r,(o,d,j))=>k≤xs.length∧G.le Gx∧r.length=k∧Bigs Gx r (EZ P k)∧OwnA o d r j) (fun (k,Gx,r,(o,d,j))=>xs.length - k) ((0,G,[],(none,0,[]))) (⟨aM _,bK _,rfl,⟨rfl,fun i h=>absurd h tR⟩,eD⟩) rfl ⟨rfl,rfl,rfl,rfl,rfl,rfl,trivial⟩ ⟨rfl,trivial⟩ fun ⟨k,Gx,r,(o,d,j)⟩=>fun hk=>?_
 obtain ⟨hk1,hk2,hk3,hk4,hk5⟩:=hk
 replace ha:=ha.up hk2
 rcases aK k xs.length with hkl | hkl
 · refine aJ 13 [1] ?_
   refine fP (α:=IV) T.sl68 ?_
   refine lB T.agg125 ?_
   refine aN 10 rfl T.zero125 fun b1=>?_
   refine aL 7 [10,10] ?_
   refine eC (fst:=fst) (cap:=[]) 20 rfl hg rfl rfl (hf k hkl _ hk2) (sJ trivial) fun v1 G1 Ho1 hle1 hp=>?_
   obtain ⟨r1,rfl,hr1,rfl⟩:=hp
   refine dY (α:=IV) 11 [(r1)] rfl T.sl68 T.el125 rfl rfl rfl rfl rfl fun b2=>?_
   refine jS (α:=IV) 9 T.sl68 T.el125 (fE 11 rfl) fun a1 c1 junk1 ho1=>?_
   refine aR 8 [] ?_
   refine cN 10 rfl (show _=Value.int .i64 ((k+1:Nat):Int) from rfl) ?_
   refine cL ((k+1,G1,r++[r1],(a1,c1,junk1))) ?_ ?_
   · refine ⟨hkl,aQ hk2 hle1,by rw [aC,hk3];rfl,?_,ho1⟩
     rw [Pd];exact Kq (hk4.up hle1) hr1
   show xs.length - (k+1)<xs.length - k
   omega
 have hkl:k=xs.length:=sE
 subst hkl
 refine bE 19 [0] ?_
 refine cQ 9 rfl hk5 fun G8 hle8 hA8=>?_
 refine cP ?_
 exact ⟨o,r,d,rfl,hA8,hk5.le,hk4.up hle8,rfl⟩
theorem ZR (G:Imm) (a:Option Addr) (c:Nat) (xs:List IV) (g bk:Nat) (cap:List Value) (P:Nat→Int) (hg:tH Tryz.prog g) (ha:Arr G a xs) (hl:xs.length≤1048576)
 (hf:∀ k:Nat,k<xs.length→∀ G',G.le G'→Does Tryz.prog g ([]++[.agg (Cells.enc (xs[((k:Nat):Int).toNat]?.getD default)).toArray]++cap) G' [(0,some bk,.cells #[.int .i64 ((k:Int) - 1)] 3)] (fun v G'' Ho=>∃ r:IV,v=.agg (Cells.enc r).toArray∧Big G'' r (P k)∧Ho=[(0,some bk,.cells #[.int .i64 (((k+1:Nat):Int) - 1)] 3)])) :
 Does Tryz.prog 265 [.slice a xs.length c,.func (.func g) #[] cap.toArray] G [(0,some bk,.cells #[.int .i64 (-1)] 3)] (fun v G' Ho=>∃ (s:Option Addr) (r:List IV) (d:Nat),v=.slice s r.length d∧Arr G' s r∧r.length≤d∧Bigs G' r (EZ P xs.length)∧Ho=[(0,some bk,.cells #[.int .i64 ((xs.length:Int) - 1)] 3)]):=by
 refine D0 Tryz.func265 Tryz.ntmps265 fun w=>?_
 refine dZ 9 (Row 125 ([]:List IV) []) ?_
 refine bJ 19 [] ?_
 refine pR 0 (.cells #[.int .i64 (((0:Nat):Int) - 1)] 3) rfl rfl ?_
 refine iZ (ι:=Nat×Imm×List IV×(Option Addr×Nat×List Value)) (fun (k,Gx,r,(o,d,j))=>([(10,.int .i64 (k:Int)),(5,.slice o r.length d),(9,.int .i64 (xs.length:Int)),(8,.slice a (List.length xs) c),(4,.slice none 0 0),(1,.func (Go.Fn.func g) #[] (List.toArray cap))],[(0,some bk,.cells #[.int .i64 ((k:Int) - 1)] 3),(9,o.map (·.block),Row 125 r j)])) (fun (k,Gx,r,(o,d,j))=>Gx) (fun (k,Gx,r,(o,d,j))=>k≤xs.length∧G.le Gx∧r.length=k∧Bigs Gx r (EZ P k)∧OwnA o d r j) (fun (k,Gx,r,(o,d,j))=>xs.length - k) ((0,G,[],(none,0,[]))) (⟨aM _,bK _,rfl,⟨rfl,fun i h=>absurd h tR⟩,eD⟩) rfl ⟨rfl,rfl,rfl,rfl,rfl,rfl,trivial⟩ ⟨rfl,rfl,trivial⟩ fun ⟨k,Gx,r,(o,d,j)⟩=>fun hk=>?_
 obtain ⟨hk1,hk2,hk3,hk4,hk5⟩:=hk
 replace ha:=ha.up hk2
 rcases aK k xs.length with hkl | hkl
 · refine aJ 13 [1] ?_
   refine fP (α:=IV) T.sl68 ?_
   refine lB T.agg125 ?_
   refine aN 10 rfl T.zero125 fun b1=>?_
   refine aL 7 [10,10] ?_
   refine eC (fst:=[]) (cap:=cap) 0 rfl hg rfl rfl (hf k hkl _ hk2) (sJ ⟨rfl,trivial⟩) fun v1 G1 Ho1 hle1 hp=>?_
   obtain ⟨r1,rfl,hr1,rfl⟩:=hp
   refine dY (α:=IV) 11 [(r1)] rfl T.sl68 T.el125 rfl rfl rfl rfl rfl fun b2=>?_
   refine jS (α:=IV) 9 T.sl68 T.el125 (fE 11 rfl) fun a1 c1 junk1 ho1=>?_
   refine aR 8 [] ?_
   refine cN 10 rfl (show _=Value.int .i64 ((k+1:Nat):Int) from rfl) ?_
   refine cL ((k+1,G1,r++[r1],(a1,c1,junk1))) ?_ ?_
   · refine ⟨hkl,aQ hk2 hle1,by rw [aC,hk3];rfl,?_,ho1⟩
     rw [Pd];exact Kq (hk4.up hle1) hr1
   show xs.length - (k+1)<xs.length - k
   omega
 have hkl:k=xs.length:=sE
 subst hkl
 refine bE 19 [0] ?_
 refine cQ 9 rfl hk5 fun G8 hle8 hA8=>?_
 refine cK (.inr rfl) (Ho:=[(0,some bk,.cells #[.int .i64 ((xs.length:Int) - 1)] 3)]) rfl (.tmp rfl) ⟨rfl,trivial⟩ ?_
 exact ⟨o,r,d,rfl,hA8,hk5.le,hk4.up hle8,rfl⟩
end
section
attribute [local irreducible] sI pb tY tF
theorem Sy {G:Imm} {b:Nat} {cs:List Value} {T:TypeId} {fz:Nat×Nat} (h:G b=some (.cells cs.toArray T fz)) (k:Nat) {v:Value} (hv:cs[k]?=some v):G.cell b k=some v:=by
 simp only [Imm.cell,h];simpa using hv
theorem Vn (xs:List Int) (f:Int→Int):EZ (fun k=>f (xs[k]?.getD 0)) xs.length=xs.map f:=by
 unfold EZ
 apply fB
 · rw [aP,aP,bS]
 intro i h1 h2
 rw [aP] at h2
 rw [fA,iV,fA,aA h2];rfl
theorem FA (xs ys:List Int) (f:Int→Int→Int) (h:xs.length=ys.length):EZ (fun k=>f (xs[k]?.getD 0) (ys[k]?.getD 0)) xs.length=List.zipWith f xs ys:=by
 unfold EZ
 apply fB
 · rw [aP,bS,iQ,h,pX]
 intro i h1 h2
 rw [iQ] at h2
 rw [fA,iV,List.getElem_zipWith,aA (show i<xs.length by omega),aA (show i<ys.length by omega)];rfl
def Iw (G':Imm) (v:Value) (zs:List Int):Prop:=∃ (s:Option Addr) (r:List IV) (d:Nat),v=.slice s r.length d∧Arr G' s r∧r.length≤d∧Bigs G' r zs
theorem Gq {G:Imm} {l:List IV} {xs:List Int} {m:Nat} (h:Bigs G l xs) (hm:Below m xs) {k:Nat} (hk:k<l.length):(l[k]?.getD default).n≤m:=gJ (h.2 k hk) (hm.at k)
theorem fk (G:Imm) (a:Option Addr) (c:Nat) (l:List IV) (xs:List Int) (m:Nat) (ha:Arr G a l) (hb:Bigs G l xs) (hm:Below m xs) (hmm:m≤268435456) (hl:l.length≤1048576) :
 Does Tryz.prog 236 [.slice a l.length c] G [] (fun v G' Ho=>Iw G' v (xs.map fun x=>-x)∧Ho=[]):=by
 have hf:∀ k:Nat,k<l.length→∀ G',G.le G'→Does Tryz.prog 176 ([]++[.agg (Cells.enc (l[(k:Int).toNat]?.getD default)).toArray]++[]) G' [] (fun v G'' Ho=>∃ r:IV,v=.agg (Cells.enc r).toArray∧Big G'' r (-(xs[k]?.getD 0))∧Ho=[]):=fun k hk G' hG=>by
  have h1:=Gq hb hm hk
  exact (WJ G' _ _ ((hb.2 k hk).up hG) sE).mono fun v G'' Ho _ ⟨r,e1,e2,e3,e4⟩=>⟨r,e1,e2,e4⟩
 have h180:=VI G a c l 176 [] (fun k=>-(xs[k]?.getD 0)) T.fn176 ha hl hf
 rw [hb.1,Vn xs (fun x=>-x),←hb.1] at h180
 refine D0 Tryz.func236 Tryz.ntmps236 fun w=>?_
 refine aJ 8 [] ?_
 refine bX 0 rfl (h180) fun v1 G1 Ho1 hle1 hp=>?_
 obtain ⟨s1,r1,d1,rfl,hA1,hl81,hB1,rfl⟩:=hp
 replace ha:=ha.up hle1
 replace hb:=hb.up hle1
 refine aR 4 [] ?_
 refine cP ?_
 exact ⟨⟨_,_,_,rfl,hA1,hl81,hB1⟩,rfl⟩
theorem fl (G:Imm) (bk bf bb h:Nat) (x:IV) (k:Nat) (a':Option Addr) (c':Nat) (ys:List IV) (R:Int) (hgh:tH Tryz.prog h) (hy:Arr G a' ys) (hk:k<ys.length) (hkl:k≤1048576) (hf:G bf=some (.cells [.func (.func h) #[] #[]].toArray 203)) (hb:G bb=some (.cells [.slice a' ys.length c'].toArray 68))
 (hh:Does Tryz.prog h ([]++[.agg (Cells.enc x).toArray,.agg (Cells.enc (ys[((k:Nat):Int).toNat]?.getD default)).toArray]++[]) G [] (fun v G'' Ho=>∃ r:IV,v=.agg (Cells.enc r).toArray∧Big G'' r R∧Ho=[])) :
 Does Tryz.prog 276 [.agg (Cells.enc x).toArray,.pointer (some ⟨bk,0,none⟩),.pointer (some ⟨bf,0,none⟩),.pointer (some ⟨bb,0,none⟩)] G [(0,some bk,.cells #[.int .i64 ((k:Int) - 1)] 3)]
  (fun v G' Ho=>∃ r:IV,v=.agg (Cells.enc r).toArray∧Big G' r R∧Ho=[(0,some bk,.cells #[.int .i64 (((k+1:Nat):Int) - 1)] 3)]):=by
 have hfc:=Sy hf 0 rfl
 have hbc:=Sy hb 0 rfl
 have e:(k:Int).toNat=(((k:Int) - 1)+1).toNat:=sE
 rw [e] at hh
 refine D0 Tryz.func276 Tryz.ntmps276 fun w=>?_
 refine aJ 2 [] ?_
 refine dQ 1 fun b1=>?_
 refine aN 2 rfl T.zero125 fun b2=>?_
 refine aZ 10 [0,0] ?_
 refine gQ [1,2,0] [(2,7),(0,6),(2,6),(1,6)] T.mixed rfl ?_
 refine dN 0 [] rfl (cJ T.one203 rfl sF) ?_
 refine dE [[1,1]] ?_
 refine dN 2 [] rfl (cJ T.one68 rfl sF) ?_
 refine bV 3 ?_
 refine aB 1 [0] ?_
 refine bD ?_
 refine mQ (α:=IV) 4 T.sl68 ?_
 refine Gm.le 5 T.agg125 ?_
 refine bV 6 ?_
 refine eC (fst:=[]) (cap:=[]) 20 rfl hgh rfl rfl hh (sJ trivial) fun v1 G1 Ho1 hle1 hp=>?_
 obtain ⟨r1,rfl,hr1,rfl⟩:=hp
 refine cG 7 ?_
 refine aB 1 [2] ?_
 refine eZ ?_
 refine dX 2 [] ?_
 refine fY 0 (.cells #[.int .i64 (((k+1:Nat):Int) - 1)] 3) rfl (by rw [show (((k+1:Nat):Int) - 1)=(k:Int) - 1+1 by omega];rfl) ?_
 refine cK (.inr rfl) (Ho:=[(0,some bk,.cells #[.int .i64 (((k+1:Nat):Int) - 1)] 3)]) rfl (.agg 2 rfl rfl T.agg125) ⟨rfl,trivial⟩ ?_
 exact ⟨r1,rfl,hr1,rfl⟩
theorem ZS (G:Imm) (h:Nat) (a a':Option Addr) (c c':Nat) (l l':List IV) (F:Nat→Int) (hgh:tH Tryz.prog h) (ha:Arr G a l) (ha':Arr G a' l') (hlen:l.length=l'.length) (hl:l.length≤1048576)
 (hh:∀ k:Nat,k<l.length→∀ G',G.le G'→Does Tryz.prog h ([]++[.agg (Cells.enc (l[((k:Nat):Int).toNat]?.getD default)).toArray,.agg (Cells.enc (l'[((k:Nat):Int).toNat]?.getD default)).toArray]++[]) G' [] (fun v G'' Ho=>∃ r:IV,v=.agg (Cells.enc r).toArray∧Big G'' r (F k)∧Ho=[])) :
 Does Tryz.prog 266 [.slice a l.length c,.slice a' l'.length c',.func (.func h) #[] #[]] G [] (fun v G' Ho=>∃ (s:Option Addr) (r:List IV) (d:Nat),v=.tuple #[.slice s r.length d,.int .i64 0]∧Arr G' s r∧r.length≤d∧Bigs G' r (EZ F l.length)∧Ho=[]):=by
 refine D0 Tryz.func266 Tryz.ntmps266 fun w=>?_
 refine aJ 2 [] ?_
 refine dQ 0 fun b1=>?_
 refine dQ 1 fun b2=>?_
 refine aL 19 [0,0] ?_
 refine aN 2 rfl T.zero3 fun b3=>?_
 refine aL 6 [2] ?_
 refine aO (gT rfl rfl) ?_
 refine lQ 1 rfl fun G1 hg1 hb1=>?_
 refine lQ 0 rfl fun G2 hg2 hb2=>?_
 replace hb1:=hg2 _ _ hb1
 have hG:=aQ hg1 hg2
 replace ha:=ha.up hG
 replace ha':=ha'.up hG
 refine nU 2 (.cells #[.int .i64 (-1)] 3) rfl rfl ?_
 refine eK 2 rfl T.fn265 rfl (ZR _ a c l 276 b3 [.pointer (some ⟨b3,0,none⟩),.pointer (some ⟨b2,0,none⟩),.pointer (some ⟨b1,0,none⟩)] F T.fn276 ha hl
  (fun k hk G' hG'=>fl G' b3 b2 b1 h _ k a' c' l' (F k) hgh (ha'.up hG') sE sE (hG' _ _ hb1) (hG' _ _ hb2) (hh k hk G' (aQ hG hG')))) (sJ ⟨rfl,trivial⟩) (fun v1 G3 Ho1 hle1 hp=>?_)
 obtain ⟨s,r,d,rfl,hA,hd,hB,rfl⟩:=hp
 refine aR 5 [] ?_
 refine gR ?_
 exact ⟨s,r,d,rfl,hA,hd,hB,rfl⟩
theorem fm (G:Imm) (a a':Option Addr) (c c':Nat) (l l':List IV) (xs ys:List Int) (m:Nat) (ha:Arr G a l) (ha':Arr G a' l') (hb:Bigs G l xs) (hb':Bigs G l' ys) (hm:Below m xs) (hm':Below m ys) (hmm:m≤268435456) (hlen:l.length=l'.length) (hl:l.length≤1048576) :
 Does Tryz.prog 238 [.slice a l.length c,.slice a' l'.length c'] G [] (fun v G' Ho=>∃ (s:Option Addr) (r:List IV) (d:Nat),v=.tuple #[.slice s r.length d,.int .i64 0]∧Arr G' s r∧r.length≤d∧Bigs G' r (List.zipWith (·+·) xs ys)∧Ho=[]):=by
 have h181:=ZS G 138 a a' c c' l l' (fun k=>xs[k]?.getD 0+ys[k]?.getD 0) T.fn138 ha ha' hlen hl (fun k hk G' hG=>by
  have h1:=Gq hb hm hk
  have h2:=Gq hb' hm' (show k<l'.length by omega)
  exact LW G' _ _ _ _ ((hb.2 k hk).up hG) ((hb'.2 k sE).up hG) Rm Rm)
 rw [hb.1,FA xs ys (·+·) (by rw [←hb.1,←hb'.1,hlen]),←hb.1] at h181
 refine D0 Tryz.func238 Tryz.ntmps238 fun w=>?_
 refine aJ 10 [] ?_
 refine bX 0 rfl (h181) fun v1 G1 Ho1 hle1 hp=>?_
 obtain ⟨s1,r1,d1,rfl,hA1,hl81,hB1,rfl⟩:=hp
 replace ha:=ha.up hle1
 replace ha':=ha'.up hle1
 replace hb:=hb.up hle1
 replace hb':=hb'.up hle1
 refine aR 7 [] ?_
 refine gR ?_
 exact ⟨_,_,_,rfl,hA1,hl81,hB1,rfl⟩
theorem fo (G:Imm) (a a':Option Addr) (c c':Nat) (l l':List IV) (xs ys:List Int) (m:Nat) (ha:Arr G a l) (ha':Arr G a' l') (hb:Bigs G l xs) (hb':Bigs G l' ys) (hm:Below m xs) (hm':Below m ys) (hmm:m≤268435456) (hlen:l.length=l'.length) (hl:l.length≤1048576) :
 Does Tryz.prog 240 [.slice a l.length c,.slice a' l'.length c'] G [] (fun v G' Ho=>∃ (s:Option Addr) (r:List IV) (d:Nat),v=.tuple #[.slice s r.length d,.int .i64 0]∧Arr G' s r∧r.length≤d∧Bigs G' r (List.zipWith (· - ·) xs ys)∧Ho=[]):=by
 have h181:=ZS G 177 a a' c c' l l' (fun k=>xs[k]?.getD 0 - ys[k]?.getD 0) T.fn177 ha ha' hlen hl (fun k hk G' hG=>by
  have h1:=Gq hb hm hk
  have h2:=Gq hb' hm' (show k<l'.length by omega)
  exact WM G' _ _ _ _ ((hb.2 k hk).up hG) ((hb'.2 k sE).up hG) Rm Rm)
 rw [hb.1,FA xs ys (· - ·) (by rw [←hb.1,←hb'.1,hlen]),←hb.1] at h181
 refine D0 Tryz.func240 Tryz.ntmps240 fun w=>?_
 refine aJ 10 [] ?_
 refine bX 0 rfl (h181) fun v1 G1 Ho1 hle1 hp=>?_
 obtain ⟨s1,r1,d1,rfl,hA1,hl81,hB1,rfl⟩:=hp
 replace ha:=ha.up hle1
 replace ha':=ha'.up hle1
 replace hb:=hb.up hle1
 replace hb':=hb'.up hle1
 refine aR 7 [] ?_
 refine gR ?_
 exact ⟨_,_,_,rfl,hA1,hl81,hB1,rfl⟩
theorem fp (G:Imm) (a:Option Addr) (c:Nat) (l:List IV) (xs:List Int) (y:IV) (z:Int) (m:Nat) (ha:Arr G a l) (hb:Bigs G l xs) (hm:Below m xs) (hmm:m≤268435456) (hl:l.length≤1048576) (hy:Big G y z) (hyn:y.n≤268435456) :
 Does Tryz.prog 241 [.slice a l.length c,.agg (Cells.enc y).toArray] G [] (fun v G' Ho=>Iw G' v (xs.map fun x=>z*x)∧Ho=[]):=by
 have hf:∀ k:Nat,k<l.length→∀ G',G.le G'→Does Tryz.prog 75 ([.agg (Cells.enc y).toArray]++[.agg (Cells.enc (l[(k:Int).toNat]?.getD default)).toArray]++[]) G' [] (fun v G'' Ho=>∃ r:IV,v=.agg (Cells.enc r).toArray∧Big G'' r (z*xs[k]?.getD 0)∧Ho=[]):=fun k hk G' hG=>by
  have h1:=Gq hb hm hk
  exact WL G' _ _ _ _ (hy.up hG) ((hb.2 k hk).up hG) sE Rm
 have h180:=VI G a c l 75 [.agg (Cells.enc y).toArray] (fun k=>z*xs[k]?.getD 0) T.fn75 ha hl hf
 rw [hb.1,Vn xs (fun x=>z*x),←hb.1] at h180
 refine D0 Tryz.func241 Tryz.ntmps241 fun w=>?_
 refine aJ 2 [] ?_
 refine dQ 0 fun b1=>?_
 refine aL 7 [0] ?_
 refine aO (gT rfl rfl) ?_
 refine bX 1 rfl (h180) fun v1 G1 Ho1 hle1 hp=>?_
 obtain ⟨s1,r1,d1,rfl,hA1,hl81,hB1,rfl⟩:=hp
 replace ha:=ha.up hle1
 replace hb:=hb.up hle1
 replace hy:=hy.up hle1
 refine aR 4 [] ?_
 refine cP ?_
 exact ⟨⟨_,_,_,rfl,hA1,hl81,hB1⟩,rfl⟩
theorem SX (xs:List Int) (z:Int):EZ (fun k=>xs[k]?.getD 0 / z) xs.length=xs.map (· / z):=Vn xs (· / z)
theorem fq (G:Imm) (a:Option Addr) (c:Nat) (l:List IV) (xs:List Int) (y:IV) (z:Int) (m:Nat) (ha:Arr G a l) (hb:Bigs G l xs) (hm:Below m xs) (hmm:m≤268435456) (hl:l.length≤1048576) (hy:Big G y z) (hyn:y.n≤268435456) (hy0:z≠0) :
 Does Tryz.prog 243 [.slice a l.length c,.agg (Cells.enc y).toArray] G [] (fun v G' Ho=>((∀ i:Nat,i<xs.length→xs[i]?.getD 0 % z=0)→∃ (s:Option Addr) (r:List IV) (d:Nat),v=.tuple #[.slice s r.length d,.int .i64 0]∧Arr G' s r∧r.length≤d∧Bigs G' r (xs.map (· / z)))∧
  (¬(∀ i:Nat,i<xs.length→xs[i]?.getD 0 % z=0)→v=.tuple #[.slice none 0 0,.int .i64 20])∧Ho=[]):=by
 have hxl:=hb.1
 refine D0 Tryz.func243 Tryz.ntmps243 fun w=>?_
 refine dZ 9 (Row 125 ([]:List IV) []) ?_
 have hz0:¬Yh z=0:=fun h=>hy0 (Ii.1 h)
 refine aJ 2 [] ?_
 refine dQ 10 fun b1=>?_
 refine aL 8 [10] ?_
 refine cI rfl (Nz _ y z hy (aV hyn sN)) ?_
 refine aZ 20 [0] ?_
 refine iZ (ι:=Nat×Imm×List IV×(Option Addr×Nat×List Value)) (fun (k,Gx,r,(o,d,j))=>([(17,.int .i64 (k:Int)),(6,.slice o r.length d),(16,.int .i64 (l.length:Int)),(15,.slice a (List.length l) c),(3,.pointer (some ⟨b1,0,none⟩))],[(9,o.map (·.block),Row 125 r j),(10,some b1,.cells (List.toArray (Cells.enc y)) 125)])) (fun (k,Gx,r,(o,d,j))=>Gx) (fun (k,Gx,r,(o,d,j))=>k≤l.length∧G.le Gx∧r.length=k∧Bigs Gx r (EZ (fun k=>xs[k]?.getD 0 / z) k)∧OwnA o d r j∧(∀ i:Nat,i<k→xs[i]?.getD 0 % z=0)) (fun (k,Gx,r,(o,d,j))=>l.length - k) ((0,G,[],(none,0,[]))) (⟨aM _,bK _,rfl,⟨rfl,fun i h=>absurd h tR⟩,eD,fun i h=>absurd h sE⟩) rfl ⟨rfl,rfl,rfl,rfl,rfl,trivial⟩ ⟨rfl,rfl,trivial⟩ fun ⟨k,Gx,r,(o,d,j)⟩=>fun hk=>?_
 obtain ⟨hk1,hk2,hk3,hk4,hk5,hk6⟩:=hk
 replace ha:=ha.up hk2
 replace hb:=hb.up hk2
 replace hy:=hy.up hk2
 rcases aK k l.length with hkl | hkl
 · have hx:=hb.2 k hkl
   have hxn:(l[(k:Int).toNat]?.getD default).n≤268435456:=by rw [aE];exact aV (Gq hb hm hkl) hmm
   have hx:Big Gx (l[(k:Int).toNat]?.getD default) (xs[k]?.getD 0):=by rw [aE];exact hx
   have hlt:((xs[k]?.getD 0 % z).natAbs:Int)<pb y.n:=by
    have e2:=Oc (x:=xs[k]?.getD 0) hy0
    have e3:=Big.lt hy
    omega
   refine aJ 13 [1] ?_
   refine fP (α:=IV) T.sl68 ?_
   refine lB T.agg125 ?_
   refine aN 11 rfl T.zero125 fun b2=>?_
   refine aL 7 [11,11,10] ?_
   refine bX 12 rfl (YZ _ _ _ _ _ hx hy hxn hyn hy0) fun v1 G1 Ho1 hle1 hp=>?_
   obtain ⟨q1,r1,rfl,hq1,hr1,rfl⟩:=hp
   replace hk4:=hk4.up hle1
   replace ha:=ha.up hle1
   replace hb:=hb.up hle1
   replace hy:=hy.up hle1
   replace hx:=hx.up hle1
   refine aB 4 [] ?_
   refine aN 12 rfl T.zero125 fun b3=>?_
   refine aN 13 rfl T.zero125 fun b4=>?_
   refine aL 9 [12,13,13] ?_
   refine cI rfl (Nz _ r1 (xs[k]?.getD 0 % z) hr1 (aV (gJ hr1 hlt) (aV hyn sN))) ?_
   refine aZ 3 [] ?_
   refine cT (fun hc1=>?_) fun hc1=>?_
   refine bE 13 [] ?_
   rotate_left
   refine aJ 5 [12] ?_
   refine dY (α:=IV) 14 [(q1)] rfl T.sl68 T.el125 rfl rfl rfl rfl rfl fun b5=>?_
   refine jS (α:=IV) 9 T.sl68 T.el125 (fE 14 rfl) fun a1 c1 junk1 ho1=>?_
   refine aR 8 [] ?_
   rotate_left
   · refine gR ?_
     have hno:¬(∀ i:Nat,i<xs.length→xs[i]?.getD 0 % z=0):=fun h=>hc1 (Ii.2 (h k sE))
     exact ⟨fun h=>absurd h hno,fun _=>rfl,rfl⟩
   have hdz:xs[k]?.getD 0 % z=0:=Ii.1 (eE fun h=>hc1 h)
   refine cN 17 rfl (show _=Value.int .i64 ((k+1:Nat):Int) from rfl) ?_
   refine cL ((k+1,_,r++[q1],(a1,c1,junk1))) ?_ ?_
   · refine ⟨hkl,aQ hk2 hle1,by rw [aC,hk3];rfl,?_,ho1,fun i hi=>?_⟩
     · rw [Pd];exact Kq hk4 hq1
     rcases aK i k with h | h
     · exact hk6 i h
     have e:i=k:=sE
     rw [e];exact hdz
   show l.length - (k+1)<l.length - k
   omega
 have hkl:k=l.length:=sE
 subst hkl
 refine bE 20 [0] ?_
 refine cQ 9 rfl hk5 fun G8 hle8 hA8=>?_
 refine gR ?_
 rw [hxl] at hk6
 refine ⟨fun _=>⟨o,r,d,rfl,hA8,hk5.le,?_⟩,fun h=>absurd hk6 h,rfl⟩
 rw [←SX,←hxl];exact hk4.up hle8
theorem ft (G:Imm) (a a':Option Addr) (c c':Nat) (l l':List IV) (xs ys:List Int) (m:Nat) (ha:Arr G a l) (ha':Arr G a' l') (hb:Bigs G l xs) (hb':Bigs G l' ys) (hm:Below m xs) (hm':Below m ys) (hmm:m≤268435456) (hlen:l.length=l'.length) (hl:l.length≤1048576) :
 Does Tryz.prog 237 [.slice a l.length c,.slice a' l'.length c'] G [] (fun v G' Ho=>Iw G' v (List.zipWith (·+·) xs ys)∧Ho=[]):=by
 refine D0 Tryz.func237 Tryz.ntmps237 fun w=>?_
 refine aJ 9 [] ?_
 refine bX 0 rfl (fm _ a a' c c' l l' xs ys m ha ha' hb hb' hm hm' hmm hlen hl) fun v1 G1 Ho1 hle1 hp=>?_
 obtain ⟨s1,r1,d1,rfl,hA1,hl81,hB1,rfl⟩:=hp
 replace ha:=ha.up hle1
 replace ha':=ha'.up hle1
 replace hb:=hb.up hle1
 replace hb':=hb'.up hle1
 refine aR 14 [] ?_
 refine cP ?_
 exact ⟨⟨_,_,_,rfl,hA1,hl81,hB1⟩,rfl⟩
theorem fu (G:Imm) (a a':Option Addr) (c c':Nat) (l l':List IV) (xs ys:List Int) (m:Nat) (ha:Arr G a l) (ha':Arr G a' l') (hb:Bigs G l xs) (hb':Bigs G l' ys) (hm:Below m xs) (hm':Below m ys) (hmm:m≤268435456) (hlen:l.length=l'.length) (hl:l.length≤1048576) :
 Does Tryz.prog 239 [.slice a l.length c,.slice a' l'.length c'] G [] (fun v G' Ho=>Iw G' v (List.zipWith (· - ·) xs ys)∧Ho=[]):=by
 refine D0 Tryz.func239 Tryz.ntmps239 fun w=>?_
 refine aJ 9 [] ?_
 refine bX 0 rfl (fo _ a a' c c' l l' xs ys m ha ha' hb hb' hm hm' hmm hlen hl) fun v1 G1 Ho1 hle1 hp=>?_
 obtain ⟨s1,r1,d1,rfl,hA1,hl81,hB1,rfl⟩:=hp
 replace ha:=ha.up hle1
 replace ha':=ha'.up hle1
 replace hb:=hb.up hle1
 replace hb':=hb'.up hle1
 refine aR 14 [] ?_
 refine cP ?_
 exact ⟨⟨_,_,_,rfl,hA1,hl81,hB1⟩,rfl⟩
theorem fv (G:Imm) (a:Option Addr) (c:Nat) (l:List IV) (xs:List Int) (y:IV) (z:Int) (m:Nat) (ha:Arr G a l) (hb:Bigs G l xs) (hm:Below m xs) (hmm:m≤268435456) (hl:l.length≤1048576) (hy:Big G y z) (hyn:y.n≤268435456) (hy0:z≠0) :
 Does Tryz.prog 242 [.slice a l.length c,.agg (Cells.enc y).toArray] G [] (fun v G' Ho=>((∀ i:Nat,i<xs.length→xs[i]?.getD 0 % z=0)→∃ (s:Option Addr) (r:List IV) (d:Nat),v=.tuple #[.slice s r.length d,.bool true]∧Arr G' s r∧r.length≤d∧Bigs G' r (xs.map (· / z)))∧
  (¬(∀ i:Nat,i<xs.length→xs[i]?.getD 0 % z=0)→v=.tuple #[.slice none 0 0,.bool false])∧Ho=[]):=by
 have h:=fq G a c l xs y z m ha hb hm hmm hl hy hyn hy0
 by_cases hd:∀ i:Nat,i<xs.length→xs[i]?.getD 0 % z=0
 · have h1:=h.mono fun v G' Ho _ ⟨p1,p2,p3⟩=>(⟨p1 hd,p3⟩:(∃ (s:Option Addr) (r:List IV) (d:Nat),v=Value.tuple #[.slice s r.length d,.int .i64 0]∧Arr G' s r∧r.length≤d∧Bigs G' r (xs.map (· / z)))∧Ho=[])
   refine D0 Tryz.func242 Tryz.ntmps242 fun w=>?_
   refine aJ 2 [] ?_
   refine dQ 0 fun b1=>?_
   refine aL 8 [0] ?_
   refine bX 1 rfl (h1) fun v1 G1 Ho1 hle1 hp=>?_
   obtain ⟨⟨s1,r1,d1,rfl,hA1,hl81,hB1⟩,rfl⟩:=hp
   replace ha:=ha.up hle1
   replace hb:=hb.up hle1
   replace hy:=hy.up hle1
   refine aR 17 [] ?_
   refine gR ?_
   exact ⟨fun _=>⟨_,_,_,rfl,hA1,hl81,hB1⟩,fun h=>absurd hd h,rfl⟩
 have h1:=h.mono fun v G' Ho _ ⟨p1,p2,p3⟩=>(⟨p2 hd,p3⟩:v=Value.tuple #[.slice none 0 0,.int .i64 20]∧Ho=[])
 refine D0 Tryz.func242 Tryz.ntmps242 fun w=>?_
 refine aJ 2 [] ?_
 refine dQ 0 fun b1=>?_
 refine aL 8 [0] ?_
 refine bX 1 rfl (h1) fun v1 G1 Ho1 hle1 hp=>?_
 obtain ⟨rfl,rfl⟩:=hp
 replace ha:=ha.up hle1
 replace hb:=hb.up hle1
 replace hy:=hy.up hle1
 refine aR 17 [] ?_
 refine gR ?_
 exact ⟨fun h=>absurd h hd,fun _=>rfl,rfl⟩
def NJ:Value:=.agg #[.func (.func 236) #[] #[],.func (.func 237) #[] #[],.func (.func 239) #[] #[],.func (.func 241) #[] #[],.func (.func 242) #[] #[]]
theorem fw (G:Imm):Does Tryz.prog 204 [] G [] (fun v G' Ho=>v=NJ∧G'=G∧Ho=[]):=by
 refine D0 Tryz.func204 Tryz.ntmps204 fun w=>?_
 refine aJ 2 [] ?_
 refine aN 0 rfl T.zero281 fun b1=>?_
 refine aL 4 [] ?_
 refine aO (bO (cs:=[_,_,_,_,_]) T.st281 rfl rfl rfl) ?_
 refine aR 4 [0] ?_
 refine cK (.inr rfl) (Ho:=[]) rfl (.agg 0 rfl rfl T.agg281) trivial ?_
 exact ⟨rfl,rfl,rfl⟩
end
section
attribute [local irreducible] sI pb tY tF p2 cst
def EvenB (m N:Nat) (rs:List (List Int)):Prop:=∀ zs∈rs,zs.length=N∧Below m zs
theorem EvenB.at {m N:Nat} {rs:List (List Int)} (h:EvenB m N rs) {k:Nat} (hk:k<rs.length):(rs[k]?.getD []).length=N∧Below m (rs[k]?.getD []):=by
 rw [aA hk];exact h _ (bI hk)
def Vo (i:Sl.Instr) (rs:List (List Int)) (H0:Hp) (v:Value) (G':Imm) (Ho:Hp):Prop:=
 ∃ s:SV,v=.tuple #[.slice s.a s.n s.c,.bool (decide (wQ i rs≠none))]∧(∀ z,wQ i rs=some z→BRow G' s z)∧Ho=H0
theorem zF {i:Sl.Instr} {rs:List (List Int)} {H0:Hp} {s:SV} {G':Imm} {z:List Int} (h:wQ i rs=some z) (hx:BRow G' s z):Vo i rs H0 (.tuple #[.slice s.a s.n s.c,.bool true]) G' H0:=
 ⟨s,by rw [cA (show wQ i rs≠none from fun e=>by rw [e] at h;cases h)],fun z' h'=>by rw [h] at h';cases h';exact hx,rfl⟩
theorem Zv {i:Sl.Instr} {rs:List (List Int)} {H0:Hp} {G':Imm} (h:wQ i rs=none):Vo i rs H0 (.tuple #[.slice none 0 0,.bool false]) G' H0:=
 ⟨⟨none,0,0⟩,by rw [bQ (show ¬wQ i rs≠none from fun e=>e h)],(fun z hz=>by rw [h] at hz;cases hz),rfl⟩
theorem yS {G:Imm} {s:Option Addr} {r:List IV} {d:Nat} {zs:List Int} (hA:Arr G s r) (hd:r.length≤d) (hB:Bigs G r zs):BRow G ⟨s,r.length,d⟩ zs:=⟨r,rfl,hd,hA,hB⟩
theorem NK (xs:List Int):(xs.map fun x=>-1*x)=xs.map fun x=>-x:=by
 congr 1;funext x;rw [fX,cY]
theorem NL (xs ys:List Int):List.zipWith (fun x y=>x+1*y) xs ys=List.zipWith (·+·) xs ys:=by
 congr 1;funext x y;rw [cY]
theorem NM (xs ys:List Int):List.zipWith (fun x y=>x+(-1)*y) xs ys=List.zipWith (· - ·) xs ys:=by
 congr 1;funext x y;rw [fX,cY];rfl
theorem fx (G:Imm) (i:Sl.Instr) (o:Option Addr) (d:Nat) (r:List SV) (j:List Value) (rs:List (List Int)) (m N:Nat) (hob:OwnA o d r j) (hg:BGrid G r rs) (hm:EvenB m N rs) (hN:N≤1048576) (hm2:m≤268435456)
 (hop:1≤i.op∧i.op≤8) (ha:0≤i.a∧i.a<r.length) (hb:0≤i.b∧i.b<r.length)
 (hcst:i.op≠1→i.op≠2→i.op≠3→i.op≠4→cst i≠0∧((cst i).natAbs:Int)<pb 3)
 (hc1:i.op=5∨i.op=6→-9223372036854775808≤i.c∧i.c≤9223372036854775807) (hc2:¬(i.op=5∨i.op=6)→0≤i.c∧i.c≤64) :
 Does Tryz.prog 235 [NJ,.slice o r.length d,.agg (Cells.enc i).toArray] G [(0,o.map (·.block),Row 68 r j)] (fun v G' Ho=>Vo i rs [(0,o.map (·.block),Row 68 r j)] v G' Ho):=by
 have hca:=hob.le
 obtain ⟨la,a1,a2,a3,a4⟩:=hg.2 i.a.toNat sE
 obtain ⟨lb,b1,b2,b3,b4⟩:=hg.2 i.b.toNat sE
 have hrl:=hg.1
 obtain ⟨na,ma⟩:=hm.at (k:=i.a.toNat) sE
 obtain ⟨nb,mb⟩:=hm.at (k:=i.b.toNat) sE
 have hla:la.length≤1048576:=by rw [a4.1,na];exact hN
 have hlab:la.length=lb.length:=by rw [a4.1,b4.1,na,nb]
 refine D0 Tryz.func235 Tryz.ntmps235 fun w=>?_
 have h118:=fk G _ (r[i.a.toNat]?.getD default).c la _ m a3 a4 ma hm2 hla
 have h119:=ft G _ _ (r[i.a.toNat]?.getD default).c (r[i.b.toNat]?.getD default).c la lb _ _ m a3 b3 a4 b4 ma mb hm2 hlab hla
 have h121:=fu G _ _ (r[i.a.toNat]?.getD default).c (r[i.b.toNat]?.getD default).c la lb _ _ m a3 b3 a4 b4 ma mb hm2 hlab hla
 rw [a1] at h118
 rw [a1,b1] at h119 h121
 have h123:∀ G1 y z,G.le G1→Big G1 y z→y.n≤268435456→Does Tryz.prog 241 [.slice (r[i.a.toNat]?.getD default).a (r[i.a.toNat]?.getD default).n (r[i.a.toNat]?.getD default).c,.agg (Cells.enc y).toArray] G1 [] (fun v G' Ho=>Iw G' v ((rs[i.a.toNat]?.getD []).map fun x=>z*x)∧Ho=[]):=fun G1 y z hG hy hyn=>by
  have h:=fp G1 _ (r[i.a.toNat]?.getD default).c la _ y z m (a3.up hG) (a4.up hG) ma hm2 hla hy hyn
  rw [a1] at h;exact h
 have h124:∀ G1 y z,G.le G1→Big G1 y z→y.n≤268435456→z≠0→Does Tryz.prog 242 [.slice (r[i.a.toNat]?.getD default).a (r[i.a.toNat]?.getD default).n (r[i.a.toNat]?.getD default).c,.agg (Cells.enc y).toArray] G1 [] (fun v G' Ho=>(xE z (rs[i.a.toNat]?.getD [])→∃ (s:Option Addr) (r':List IV) (d:Nat),v=.tuple #[.slice s r'.length d,.bool true]∧Arr G' s r'∧r'.length≤d∧Bigs G' r' ((rs[i.a.toNat]?.getD []).map (· / z)))∧
  (¬xE z (rs[i.a.toNat]?.getD [])→v=.tuple #[.slice none 0 0,.bool false])∧Ho=[]):=fun G1 y z hG hy hyn hz=>by
  have h:=fv G1 _ (r[i.a.toNat]?.getD default).c la _ y z m (a3.up hG) (a4.up hG) ma hm2 hla hy hyn hz
  rw [a1] at h;exact h
 by_cases h2:i.op=2
 · refine aJ 2 [] ?_
   refine dQ 1 fun b5=>?_
   refine dQ 2 fun b6=>?_
   refine aZ 5 [] ?_
   refine cX [0,1,2] [] T.mixed [[0],[1],[2,2]] ?_
   refine fH (α:=SV) 3 T.sl237 ?_
   refine mZ 4 0 0 T.one68 ?_
   refine dE [[5],[6],[7,2]] ?_
   refine fH (α:=SV) 8 T.sl237 ?_
   refine mZ 9 0 0 T.one68 ?_
   refine dE [[10],[11]] ?_
   refine cZ ?_
   refine nE 21 [2,1,1] ?_
   refine eC (fst:=[]) (cap:=[]) 3 rfl T.fn236 rfl rfl (h118) (sJ trivial) fun v1 G1 Ho1 hle1 hp=>?_
   obtain ⟨⟨s1,r1,d1,rfl,hA1,hl81,hB1⟩,rfl⟩:=hp
   replace a3:=a3.up hle1
   replace a4:=a4.up hle1
   replace b3:=b3.up hle1
   replace b4:=b4.up hle1
   refine aR 7 [] ?_
   refine pD [0] ?_
   exact zF (by unfold wQ;simp only [h2,iD];rw [NK]) (yS hA1 hl81 hB1)
 by_cases h3:i.op=3
 · refine aJ 2 [] ?_
   refine dQ 1 fun b5=>?_
   refine dQ 2 fun b6=>?_
   refine aZ 5 [] ?_
   refine cX [0,1,2] [] T.mixed [[0],[1],[2,2]] ?_
   refine fH (α:=SV) 3 T.sl237 ?_
   refine mZ 4 0 0 T.one68 ?_
   refine dE [[5],[6],[7,2]] ?_
   refine fH (α:=SV) 8 T.sl237 ?_
   refine mZ 9 0 0 T.one68 ?_
   refine dE [[10],[11]] ?_
   refine cZ ?_
   refine nE 29 [2,0,1,1] ?_
   refine eC (fst:=[]) (cap:=[]) 3 rfl T.fn237 rfl rfl (h119) (sJ trivial) fun v1 G1 Ho1 hle1 hp=>?_
   obtain ⟨⟨s1,r1,d1,rfl,hA1,hl81,hB1⟩,rfl⟩:=hp
   replace a3:=a3.up hle1
   replace a4:=a4.up hle1
   replace b3:=b3.up hle1
   replace b4:=b4.up hle1
   refine aR 7 [] ?_
   refine pD [0] ?_
   exact zF (by unfold wQ;simp only [h3,iD];rw [aD (by decide),NL]) (yS hA1 hl81 hB1)
 by_cases h4:i.op=4
 · refine aJ 2 [] ?_
   refine dQ 1 fun b5=>?_
   refine dQ 2 fun b6=>?_
   refine aZ 5 [] ?_
   refine cX [0,1,2] [] T.mixed [[0],[1],[2,2]] ?_
   refine fH (α:=SV) 3 T.sl237 ?_
   refine mZ 4 0 0 T.one68 ?_
   refine dE [[5],[6],[7,2]] ?_
   refine fH (α:=SV) 8 T.sl237 ?_
   refine mZ 9 0 0 T.one68 ?_
   refine dE [[10],[11]] ?_
   refine cZ ?_
   refine nE 36 [2,0,0,1,1] ?_
   refine eC (fst:=[]) (cap:=[]) 3 rfl T.fn239 rfl rfl (h121) (sJ trivial) fun v1 G1 Ho1 hle1 hp=>?_
   obtain ⟨⟨s1,r1,d1,rfl,hA1,hl81,hB1⟩,rfl⟩:=hp
   replace a3:=a3.up hle1
   replace a4:=a4.up hle1
   replace b3:=b3.up hle1
   replace b4:=b4.up hle1
   refine aR 7 [] ?_
   refine pD [0] ?_
   exact zF (by unfold wQ;simp only [h4,iD];rw [aD (by decide),aD (by decide),NM]) (yS hA1 hl81 hB1)
 by_cases h1:i.op=1
 · refine aJ 2 [] ?_
   refine dQ 1 fun b5=>?_
   refine dQ 2 fun b6=>?_
   refine aZ 5 [] ?_
   refine cX [0,1,2] [] T.mixed [[0],[1],[2,2]] ?_
   refine fH (α:=SV) 3 T.sl237 ?_
   refine mZ 4 0 0 T.one68 ?_
   refine dE [[5],[6],[7,2]] ?_
   refine fH (α:=SV) 8 T.sl237 ?_
   refine mZ 9 0 0 T.one68 ?_
   refine dE [[10],[11]] ?_
   refine cZ ?_
   refine dX 69 [2,0,0,0,0,0,0,0] ?_
   refine pD [0] ?_
   exact zF (by unfold wQ;simp only [h1];rfl) ⟨la,a1,a2,a3,a4⟩
 obtain ⟨hk0,hk3⟩:=hcst h1 h2 h3 h4
 by_cases h5:i.op=5
 · have hc9:=hc1 (.inl h5)
   have e5:cst i=i.c:=Ob (.inl h5)
   rw [e5] at hk3
   refine aJ 2 [] ?_
   refine dQ 1 fun b5=>?_
   refine dQ 2 fun b6=>?_
   refine aZ 5 [] ?_
   refine cX [0,1,2] [] T.mixed [[0],[1],[2,2]] ?_
   refine fH (α:=SV) 3 T.sl237 ?_
   refine mZ 4 0 0 T.one68 ?_
   refine dE [[5],[6],[7,2]] ?_
   refine fH (α:=SV) 8 T.sl237 ?_
   refine mZ 9 0 0 T.one68 ?_
   refine dE [[10],[11]] ?_
   refine cZ ?_
   refine mD 38 [2,0,0,0,1] ?_
   refine cX [0,1,2] [(2,6),(1,6),(0,6)] T.mixed [[0],[1,1],[2],[3]] ?_
   refine bV 4 ?_
   refine aB 1 [2] ?_
   refine cG 5 ?_
   refine bX 3 rfl (HE _ i.c hc9) fun v1 G1 Ho1 hle1 hp=>?_
   obtain ⟨rk,rfl,hrk,rfl⟩:=hp
   replace a3:=a3.up hle1
   replace a4:=a4.up hle1
   replace b3:=b3.up hle1
   replace b4:=b4.up hle1
   refine cG 6 ?_
   refine eC (fst:=[]) (cap:=[]) 3 rfl T.fn241 rfl rfl (h123 _ rk _ sF hrk (aV (gJ hrk hk3) sN)) (sJ trivial) fun v2 G2 Ho2 hle2 hp=>?_
   obtain ⟨⟨s2,r2,d2,rfl,hA2,hl82,hB2⟩,rfl⟩:=hp
   replace hrk:=hrk.up hle2
   replace a3:=a3.up hle2
   replace a4:=a4.up hle2
   replace b3:=b3.up hle2
   replace b4:=b4.up hle2
   refine bD ?_
   refine dE [[7],[8]] ?_
   refine cZ ?_
   refine dX 4 [] ?_
   refine pD [0] ?_
   all_goals exact zF (by unfold wQ;simp only [h5,true_or,iD];rw [aD (by decide),aD (by decide),aD (by decide),e5]) (yS sF sF sF)
 by_cases h6:i.op=6
 · have hc9:=hc1 (.inr h6)
   have e5:cst i=i.c:=Ob (.inr h6)
   rw [e5] at hk3 hk0
   have h124Y:xE (i.c) (rs[i.a.toNat]?.getD [])→∀ G1 y,G.le G1→Big G1 y (i.c)→y.n≤268435456→Does Tryz.prog 242 [.slice (r[i.a.toNat]?.getD default).a (r[i.a.toNat]?.getD default).n (r[i.a.toNat]?.getD default).c,.agg (Cells.enc y).toArray] G1 [] (fun v G' Ho=>(∃ (s:Option Addr) (r':List IV) (d:Nat),v=.tuple #[.slice s r'.length d,.bool true]∧Arr G' s r'∧r'.length≤d∧Bigs G' r' ((rs[i.a.toNat]?.getD []).map (· / (i.c))))∧Ho=[]):=
    fun hd G1 y hG hy hyn=>(h124 G1 y _ hG hy hyn hk0).mono fun v G' Ho _ ⟨p1,p2,p3⟩=>⟨p1 hd,p3⟩
   have h124N:¬xE (i.c) (rs[i.a.toNat]?.getD [])→∀ G1 y,G.le G1→Big G1 y (i.c)→y.n≤268435456→Does Tryz.prog 242 [.slice (r[i.a.toNat]?.getD default).a (r[i.a.toNat]?.getD default).n (r[i.a.toNat]?.getD default).c,.agg (Cells.enc y).toArray] G1 [] (fun v G' Ho=>v=.tuple #[.slice none 0 0,.bool false]∧Ho=[]):=
    fun hd G1 y hG hy hyn=>(h124 G1 y _ hG hy hyn hk0).mono fun v G' Ho _ ⟨p1,p2,p3⟩=>⟨p2 hd,p3⟩
   by_cases hd:xE (i.c) (rs[i.a.toNat]?.getD [])
   · skip
     refine aJ 2 [] ?_
     refine dQ 1 fun b5=>?_
     refine dQ 2 fun b6=>?_
     refine aZ 5 [] ?_
     refine cX [0,1,2] [] T.mixed [[0],[1],[2,2]] ?_
     refine fH (α:=SV) 3 T.sl237 ?_
     refine mZ 4 0 0 T.one68 ?_
     refine dE [[5],[6],[7,2]] ?_
     refine fH (α:=SV) 8 T.sl237 ?_
     refine mZ 9 0 0 T.one68 ?_
     refine dE [[10],[11]] ?_
     refine cZ ?_
     refine mD 52 [2,0,0,0,0,0,1] ?_
     refine cX [0,1,2] [(2,6),(1,6),(0,6)] T.mixed [[0],[1,1],[2],[3]] ?_
     refine bV 4 ?_
     refine aB 1 [2] ?_
     refine cG 5 ?_
     refine bX 3 rfl (HE _ i.c hc9) fun v1 G1 Ho1 hle1 hp=>?_
     obtain ⟨rk,rfl,hrk,rfl⟩:=hp
     replace a3:=a3.up hle1
     replace a4:=a4.up hle1
     replace b3:=b3.up hle1
     replace b4:=b4.up hle1
     refine cG 6 ?_
     refine eC (fst:=[]) (cap:=[]) 3 rfl T.fn242 rfl rfl (h124Y hd _ rk sF hrk (aV (gJ hrk hk3) sN)) (sJ trivial) fun v2 G2 Ho2 hle2 hp=>?_
     obtain ⟨⟨s2,r2,d2,rfl,hA2,hl82,hB2⟩,rfl⟩:=hp
     replace hrk:=hrk.up hle2
     replace a3:=a3.up hle2
     replace a4:=a4.up hle2
     replace b3:=b3.up hle2
     replace b4:=b4.up hle2
     refine bD ?_
     refine dE [[7],[8],[9],[10]] ?_
     refine cZ ?_
     refine dX 4 [] ?_
     refine pD [0] ?_
     all_goals exact zF (by unfold wQ;simp only [h6,true_or,iD];first | (rw [aD (by decide),aD (by decide),aD (by decide),aD (by decide),e5,aF hd]) | (rw [aD (by decide),aD (by decide),aD (by decide),aD (by decide)];exact (by rw [e5];exact aF hd))) (yS sF sF sF)
   skip
   refine aJ 2 [] ?_
   refine dQ 1 fun b5=>?_
   refine dQ 2 fun b6=>?_
   refine aZ 5 [] ?_
   refine cX [0,1,2] [] T.mixed [[0],[1],[2,2]] ?_
   refine fH (α:=SV) 3 T.sl237 ?_
   refine mZ 4 0 0 T.one68 ?_
   refine dE [[5],[6],[7,2]] ?_
   refine fH (α:=SV) 8 T.sl237 ?_
   refine mZ 9 0 0 T.one68 ?_
   refine dE [[10],[11]] ?_
   refine cZ ?_
   refine mD 52 [2,0,0,0,0,0,1] ?_
   refine cX [0,1,2] [(2,6),(1,6),(0,6)] T.mixed [[0],[1,1],[2],[3]] ?_
   refine bV 4 ?_
   refine aB 1 [2] ?_
   refine cG 5 ?_
   refine bX 3 rfl (HE _ i.c hc9) fun v1 G1 Ho1 hle1 hp=>?_
   obtain ⟨rk,rfl,hrk,rfl⟩:=hp
   replace a3:=a3.up hle1
   replace a4:=a4.up hle1
   replace b3:=b3.up hle1
   replace b4:=b4.up hle1
   refine cG 6 ?_
   refine eC (fst:=[]) (cap:=[]) 3 rfl T.fn242 rfl rfl (h124N hd _ rk sF hrk (aV (gJ hrk hk3) sN)) (sJ trivial) fun v2 G2 Ho2 hle2 hp=>?_
   obtain ⟨rfl,rfl⟩:=hp
   replace hrk:=hrk.up hle2
   replace a3:=a3.up hle2
   replace a4:=a4.up hle2
   replace b3:=b3.up hle2
   replace b4:=b4.up hle2
   refine bD ?_
   refine dE [[7],[8],[9],[10]] ?_
   refine cZ ?_
   refine dX 4 [] ?_
   refine pD [0] ?_
   all_goals exact Zv (by unfold wQ;simp only [h6,true_or,iD];rw [aD (by decide),aD (by decide),aD (by decide),aD (by decide),e5,aD hd])
 have hc64:=hc2 (fun h=>h.elim h5 h6)
 have e5:cst i=p2 i.c.toNat:=MA (fun h=>h.elim h5 h6)
 rw [e5] at hk3 hk0
 by_cases h7:i.op=7
 · refine aJ 2 [] ?_
   refine dQ 1 fun b5=>?_
   refine dQ 2 fun b6=>?_
   refine aZ 5 [] ?_
   refine cX [0,1,2] [] T.mixed [[0],[1],[2,2]] ?_
   refine fH (α:=SV) 3 T.sl237 ?_
   refine mZ 4 0 0 T.one68 ?_
   refine dE [[5],[6],[7,2]] ?_
   refine fH (α:=SV) 8 T.sl237 ?_
   refine mZ 9 0 0 T.one68 ?_
   refine dE [[10],[11]] ?_
   refine cZ ?_
   refine mD 45 [2,0,0,0,0,1] ?_
   refine cX [0,1,2] [(2,6),(1,6),(0,6)] T.mixed [[0],[1,1],[2],[3]] ?_
   refine bV 4 ?_
   refine aB 1 [2] ?_
   refine cG 5 ?_
   refine bX 3 rfl (Yt _ i.c hc64) fun v1 G1 Ho1 hle1 hp=>?_
   obtain ⟨rk,rfl,hrk,rfl⟩:=hp
   replace a3:=a3.up hle1
   replace a4:=a4.up hle1
   replace b3:=b3.up hle1
   replace b4:=b4.up hle1
   refine cG 6 ?_
   refine eC (fst:=[]) (cap:=[]) 3 rfl T.fn241 rfl rfl (h123 _ rk _ sF hrk (aV (gJ hrk hk3) sN)) (sJ trivial) fun v2 G2 Ho2 hle2 hp=>?_
   obtain ⟨⟨s2,r2,d2,rfl,hA2,hl82,hB2⟩,rfl⟩:=hp
   replace hrk:=hrk.up hle2
   replace a3:=a3.up hle2
   replace a4:=a4.up hle2
   replace b3:=b3.up hle2
   replace b4:=b4.up hle2
   refine bD ?_
   refine dE [[7],[8]] ?_
   refine cZ ?_
   refine dX 4 [] ?_
   refine pD [0] ?_
   all_goals exact zF (by unfold wQ;simp only [h7,or_true,iD];rw [aD (by decide),aD (by decide),aD (by decide),e5]) (yS sF sF sF)
 have h8:i.op=8:=sE
 have h124Y:xE (p2 i.c.toNat) (rs[i.a.toNat]?.getD [])→∀ G1 y,G.le G1→Big G1 y (p2 i.c.toNat)→y.n≤268435456→Does Tryz.prog 242 [.slice (r[i.a.toNat]?.getD default).a (r[i.a.toNat]?.getD default).n (r[i.a.toNat]?.getD default).c,.agg (Cells.enc y).toArray] G1 [] (fun v G' Ho=>(∃ (s:Option Addr) (r':List IV) (d:Nat),v=.tuple #[.slice s r'.length d,.bool true]∧Arr G' s r'∧r'.length≤d∧Bigs G' r' ((rs[i.a.toNat]?.getD []).map (· / (p2 i.c.toNat))))∧Ho=[]):=
  fun hd G1 y hG hy hyn=>(h124 G1 y _ hG hy hyn hk0).mono fun v G' Ho _ ⟨p1,p2,p3⟩=>⟨p1 hd,p3⟩
 have h124N:¬xE (p2 i.c.toNat) (rs[i.a.toNat]?.getD [])→∀ G1 y,G.le G1→Big G1 y (p2 i.c.toNat)→y.n≤268435456→Does Tryz.prog 242 [.slice (r[i.a.toNat]?.getD default).a (r[i.a.toNat]?.getD default).n (r[i.a.toNat]?.getD default).c,.agg (Cells.enc y).toArray] G1 [] (fun v G' Ho=>v=.tuple #[.slice none 0 0,.bool false]∧Ho=[]):=
  fun hd G1 y hG hy hyn=>(h124 G1 y _ hG hy hyn hk0).mono fun v G' Ho _ ⟨p1,p2,p3⟩=>⟨p2 hd,p3⟩
 by_cases hd:xE (p2 i.c.toNat) (rs[i.a.toNat]?.getD [])
 · skip
   refine aJ 2 [] ?_
   refine dQ 1 fun b5=>?_
   refine dQ 2 fun b6=>?_
   refine aZ 5 [] ?_
   refine cX [0,1,2] [] T.mixed [[0],[1],[2,2]] ?_
   refine fH (α:=SV) 3 T.sl237 ?_
   refine mZ 4 0 0 T.one68 ?_
   refine dE [[5],[6],[7,2]] ?_
   refine fH (α:=SV) 8 T.sl237 ?_
   refine mZ 9 0 0 T.one68 ?_
   refine dE [[10],[11]] ?_
   refine cZ ?_
   refine mD 59 [2,0,0,0,0,0,0,1] ?_
   refine cX [0,1,2] [(2,6),(1,6),(0,6)] T.mixed [[0],[1,1],[2],[3]] ?_
   refine bV 4 ?_
   refine aB 1 [2] ?_
   refine cG 5 ?_
   refine bX 3 rfl (Yt _ i.c hc64) fun v1 G1 Ho1 hle1 hp=>?_
   obtain ⟨rk,rfl,hrk,rfl⟩:=hp
   replace a3:=a3.up hle1
   replace a4:=a4.up hle1
   replace b3:=b3.up hle1
   replace b4:=b4.up hle1
   refine cG 6 ?_
   refine eC (fst:=[]) (cap:=[]) 3 rfl T.fn242 rfl rfl (h124Y hd _ rk sF hrk (aV (gJ hrk hk3) sN)) (sJ trivial) fun v2 G2 Ho2 hle2 hp=>?_
   obtain ⟨⟨s2,r2,d2,rfl,hA2,hl82,hB2⟩,rfl⟩:=hp
   replace hrk:=hrk.up hle2
   replace a3:=a3.up hle2
   replace a4:=a4.up hle2
   replace b3:=b3.up hle2
   replace b4:=b4.up hle2
   refine bD ?_
   refine dE [[7],[8],[9],[10]] ?_
   refine cZ ?_
   refine dX 4 [] ?_
   refine pD [0] ?_
   all_goals exact zF (by unfold wQ;simp only [h8,or_true,iD];first | (rw [aD (by decide),aD (by decide),aD (by decide),aD (by decide),e5,aF hd]) | (rw [aD (by decide),aD (by decide),aD (by decide),aD (by decide)];exact (by rw [e5];exact aF hd))) (yS sF sF sF)
 skip
 refine aJ 2 [] ?_
 refine dQ 1 fun b5=>?_
 refine dQ 2 fun b6=>?_
 refine aZ 5 [] ?_
 refine cX [0,1,2] [] T.mixed [[0],[1],[2,2]] ?_
 refine fH (α:=SV) 3 T.sl237 ?_
 refine mZ 4 0 0 T.one68 ?_
 refine dE [[5],[6],[7,2]] ?_
 refine fH (α:=SV) 8 T.sl237 ?_
 refine mZ 9 0 0 T.one68 ?_
 refine dE [[10],[11]] ?_
 refine cZ ?_
 refine mD 59 [2,0,0,0,0,0,0,1] ?_
 refine cX [0,1,2] [(2,6),(1,6),(0,6)] T.mixed [[0],[1,1],[2],[3]] ?_
 refine bV 4 ?_
 refine aB 1 [2] ?_
 refine cG 5 ?_
 refine bX 3 rfl (Yt _ i.c hc64) fun v1 G1 Ho1 hle1 hp=>?_
 obtain ⟨rk,rfl,hrk,rfl⟩:=hp
 replace a3:=a3.up hle1
 replace a4:=a4.up hle1
 replace b3:=b3.up hle1
 replace b4:=b4.up hle1
 refine cG 6 ?_
 refine eC (fst:=[]) (cap:=[]) 3 rfl T.fn242 rfl rfl (h124N hd _ rk sF hrk (aV (gJ hrk hk3) sN)) (sJ trivial) fun v2 G2 Ho2 hle2 hp=>?_
 obtain ⟨rfl,rfl⟩:=hp
 replace hrk:=hrk.up hle2
 replace a3:=a3.up hle2
 replace a4:=a4.up hle2
 replace b3:=b3.up hle2
 replace b4:=b4.up hle2
 refine bD ?_
 refine dE [[7],[8],[9],[10]] ?_
 refine cZ ?_
 refine dX 4 [] ?_
 refine pD [0] ?_
 all_goals exact Zv (by unfold wQ;simp only [h8,or_true,iD];rw [aD (by decide),aD (by decide),aD (by decide),aD (by decide),e5,aD hd])
end
theorem Gr {m k:Nat} {xs:List Int} {f:Int→Int} (h:∀ x:Int,(x.natAbs:Int)<pb m→((f x).natAbs:Int)<pb k) (hx:Below m xs):Below k (xs.map f):=fun z hz=>by
 obtain ⟨x,h1,rfl⟩:=dJ.1 hz
 exact h x (hx x h1)
theorem Pe {m k:Nat} {xs ys:List Int} {f:Int→Int→Int} (h:∀ x y:Int,(x.natAbs:Int)<pb m→(y.natAbs:Int)<pb m→((f x y).natAbs:Int)<pb k) (hx:Below m xs) (hy:Below m ys):Below k (List.zipWith f xs ys):=fun z hz=>by
 rw [fL] at hz
 obtain ⟨n,hn,rfl⟩:=hz
 rw [List.getElem_zipWith]
 exact h _ _ (hx _ (bI _)) (hy _ (bI _))
theorem IC {i:Sl.Instr} {rs:List (List Int)} {m N:Nat} {x:List Int} (he:EvenB m N rs) (ha:0≤i.a∧i.a<rs.length) (hb:i.op=3∨i.op=4→0≤i.b∧i.b<rs.length)
 (hz:i.op=5∨i.op=7→((cst i).natAbs:Int)<pb 3) (h:wQ i rs=some x):x.length=N∧Below (m+3) x:=by
 obtain ⟨haL,haB⟩:=he.at (k:=i.a.toNat) sE
 have hp:=xO m
 have h4:4294967296*pb m≤pb (m+3):=by rw [←wY];exact Nu sE
 unfold wQ at h
 simp only at h
 split at h
 · cases h
   exact ⟨by rw [aP];exact haL,Gr (fun x hx=>by omega) haB⟩
 split at h
 · rename_i h3
   obtain ⟨hbL,hbB⟩:=he.at (k:=i.b.toNat) (by have:=hb (.inl h3);omega)
   cases h
   exact ⟨by rw [iQ,haL,hbL,pX],Pe (fun x y hx hy=>by omega) haB hbB⟩
 split at h
 · rename_i h4
   obtain ⟨hbL,hbB⟩:=he.at (k:=i.b.toNat) (by have:=hb (.inr h4);omega)
   cases h
   exact ⟨by rw [iQ,haL,hbL,pX],Pe (fun x y hx hy=>by omega) haB hbB⟩
 split at h
 · rename_i h57
   cases h
   exact ⟨by rw [aP];exact haL,Gr (fun x hx=>by rw [Nat.add_comm];exact Ke (hz h57) hx) haB⟩
 split at h
 · split at h
   · cases h
     refine ⟨by rw [aP];exact haL,Gr (fun x hx=>?_) haB⟩
     have h1:(x / cst i).natAbs≤x.natAbs:=Int.natAbs_ediv_le_natAbs _ _
     omega
   cases h
 cases h
 exact ⟨haL,haB.mono sE⟩
theorem EvenB.mono {m k N:Nat} {rs:List (List Int)} (h:EvenB m N rs) (hk:m≤k):EvenB k N rs:=fun zs hz=>⟨(h zs hz).1,(h zs hz).2.mono hk⟩
theorem ID {m N:Nat} {rs:List (List Int)} {x:List Int} (h:EvenB m N rs) (hx:x.length=N∧Below m x) (k:Nat):EvenB m N (rs.set k x):=fun zs hz=>by
 rcases eN hz with h1 | h1
 · exact h zs h1
 rw [h1];exact hx
theorem BGrid.set {G:Imm} {r:List SV} {rs:List (List Int)} (h:BGrid G r rs) {s:SV} {x:List Int} (hs:BRow G s x) (k:Nat):BGrid G (r.set k s) (rs.set k x):=by
 refine ⟨by rw [aG,aG];exact h.1,fun i hi=>?_⟩
 rw [aG] at hi
 have hrl:=h.1
 rw [cC,cC]
 by_cases e:k=i
 · subst e
   rw [aF rfl,aF rfl,aF hi,aF (by omega)]
   exact hs
 rw [aD e,aD e]
 exact h.2 i hi
section
attribute [local irreducible] sI pb tY tF p2 cst wQ
theorem fy (G:Imm) (k:Int) (s:SV):Does Tryz.prog 205 [.int .i64 k,.slice s.a s.n s.c] G [] (fun v G' Ho=>v=.bool true∧G'=G∧Ho=[]):=by
 refine D0 Tryz.func205 Tryz.ntmps205 fun w=>?_
 refine bE 11 [] ?_
 refine cP ?_
 exact ⟨rfl,rfl,rfl⟩
def NN (p:PV) (gs:List (List Int)) (m N:Nat) (o:Option Addr) (d:Nat) (r:List SV) (j:List Value) (v:Value) (G':Imm) (Ho:Hp):Prop:=
 ∃ (r':List SV) (k:Int),v=.int .i64 k∧Ho=[(0,o.map (·.block),Row 68 r' j)]∧r'.length=r.length∧OwnA o d r' j∧
  ((∃ rs',wC p gs p.code.length=some rs'∧k=-1∧BGrid G' r' rs'∧EvenB (m+3*p.code.length) N rs')∨(sQ p gs=none∧0≤k))
theorem gb (G:Imm) (p:PV) (gs:List (List Int)) (ac ao:Option Addr) (cc co:Nat) (o:Option Addr) (d:Nat) (r:List SV) (j:List Value) (m N:Nat) (hc:Arr G ac p.code) (hob:OwnA o d r j) (hg:BGrid G r (uI p gs)) (hm:EvenB m N (uI p gs)) (hN:N≤1048576)
 (hmm:m+3*p.code.length≤268435456) (hlen:p.code.length≤16384) (hr:(r.length:Int)=p.regs) (hrr:r.length≤128) (hmay:∀ i∈p.code,sP i p.regs=true) :
 Does Tryz.prog 203 [NJ,.agg #[.int .i64 p.ins,.int .i64 p.regs,.slice ac p.code.length cc,.slice ao p.outs.length co],.slice o r.length d,.func (.func 205) #[] #[]] G [(0,o.map (·.block),Row 68 r j)] (NN p gs m N o d r j):=by
 refine D0 Tryz.func203 Tryz.ntmps203 fun w=>?_
 refine aJ 2 [] ?_
 refine dQ 1 fun b1=>?_
 refine dQ 2 fun b2=>?_
 refine aZ 3 [] ?_
 refine mH ?_
 refine bJ 13 [2] ?_
 refine Wc.lg (ι:=Nat×Imm×List SV×List (List Int)) (fun (i,Gx,r2,rs)=>([(16,.int .i64 (i:Int)),(2,.slice o r2.length d),(15,.int .i64 (↑p.code.length:Int)),(14,.slice ac p.code.length cc),(4,.pointer (some ⟨b1,0,none⟩)),(3,.func (Go.Fn.func 205) #[] #[])],[(0,o.map (·.block),Row 68 r2 j),(2,some b2,.cells #[.int .i64 p.ins,.int .i64 p.regs,.slice ac p.code.length cc,.slice ao p.outs.length co] 26),(1,some b1,.cells #[.func (Go.Fn.func 236) #[] #[],.func (Go.Fn.func 237) #[] #[],.func (Go.Fn.func 239) #[] #[],.func (Go.Fn.func 241) #[] #[],.func (Go.Fn.func 242) #[] #[]] 281)])) (fun (i,Gx,r2,rs)=>Gx) (fun (i,Gx,r2,rs)=>i≤p.code.length∧G.le Gx∧r2.length=r.length∧OwnA o d r2 j∧BGrid Gx r2 rs∧EvenB (m+3*i) N rs∧wC p gs i=some rs) (fun (i,Gx,r2,rs)=>p.code.length - i) ((0,G,r,uI p gs)) (⟨aM _,bK _,rfl,hob,hg,hm,rfl⟩) fun ⟨i,Gx,r2,rs⟩=>fun hk=>?_
 obtain ⟨hi0,hgx,hr2,ho2,hg2,hb2,hrun⟩:=hk
 replace hc:=hc.up hgx
 have hrl:=hg2.1
 rcases aK i p.code.length with hic | hic
 · have hmem:(p.code[(i:Int).toNat]?.getD default)∈p.code:=by
    rw [aE,aA hic];exact bI hic
   have hmi:=hmay _ hmem
   obtain ⟨m1,m2,m3,m4,m5,m6,m7,m8⟩:=tE hmi
   have m9:(p.code[(i:Int).toNat]?.getD default).a<rs.length:=sE
   have hbz:(p.code[(i:Int).toNat]?.getD default).op=3∨(p.code[(i:Int).toNat]?.getD default).op=4∨(p.code[(i:Int).toNat]?.getD default).b=0:=by
    unfold sP at hmi
    rw [aU,aU,aS] at hmi
    exact hmi.1.1.2.2.2.2
   have mb:0≤(p.code[(i:Int).toNat]?.getD default).b∧(p.code[(i:Int).toNat]?.getD default).b<r2.length:=by
    rcases hbz with h | h | h
    · have:=m4 (.inl h);omega
    · have:=m4 (.inr h);omega
    omega
   have mt:0≤(p.code[(i:Int).toNat]?.getD default).to∧(p.code[(i:Int).toNat]?.getD default).to<r2.length:=sE
   have ma:0≤(p.code[(i:Int).toNat]?.getD default).a∧(p.code[(i:Int).toNat]?.getD default).a<r2.length:=sE
   have hmi9:m+3*i≤268435456:=sE
   have hk3:(p.code[(i:Int).toNat]?.getD default).op≠1→(p.code[(i:Int).toNat]?.getD default).op≠2→(p.code[(i:Int).toNat]?.getD default).op≠3→(p.code[(i:Int).toNat]?.getD default).op≠4→cst (p.code[(i:Int).toNat]?.getD default)≠0∧((cst (p.code[(i:Int).toNat]?.getD default)).natAbs:Int)<pb 3:=fun a b c d=>⟨(m6 a b c d).1,mN (m6 a b c d).2 EL⟩
   refine aJ 14 [1] ?_
   refine fP (α:=Sl.Instr) T.sl23 ?_
   refine lB T.agg91 ?_
   refine aN 3 rfl T.zero91 fun b3=>?_
   refine aL 9 [3,1,3] ?_
   refine bX 0 rfl (fx _ (p.code[(i:Int).toNat]?.getD default) o d r2 j rs (m+3*i) N ho2 hg2 hb2 hN hmi9 m1 ma mb hk3 m7 m8) fun v1 G1 Ho1 hle1 hp=>?_
   obtain ⟨x,rfl,hx,rfl⟩:=hp
   replace hc:=hc.up hle1
   replace hg2:=hg2.up hle1
   by_cases hd:wQ (p.code[((i:Nat):Int).toNat]?.getD default) rs=none
   · have hd2:¬wQ (p.code[(i:Int).toNat]?.getD default) rs≠none:=fun h=>h hd
     refine aL 11 [] ?_
     refine aO (fF rfl) ?_
     refine aR 16 [1] ?_
     refine iR ?_
     refine mB [0] ?_
     exact ⟨r2,(i:Int),rfl,rfl,hr2,ho2,.inr ⟨CM hrun hd hic,by omega⟩⟩
   obtain ⟨z,hz⟩:=Option.ne_none_iff_exists'.1 hd
   have hxz:=hx z hz
   have hok:wQ (p.code[(i:Int).toNat]?.getD default) rs≠none:=hd
   refine aL 11 [] ?_
   refine aO (fF rfl) ?_
   refine aZ 2 [] ?_
   refine cT (fun hc1=>?_) fun hc1=>?_
   refine bE 13 [] ?_
   refine iR ?_
   refine mB [0] ?_
   rotate_left
   refine aJ 8 [3] ?_
   refine gX (α:=SV) T.sl237 ?_
   refine cU (z:=_) 0 T.size68 rfl rfl rfl sF sE rfl fun ho1=>?_
   refine aL 7 [] ?_
   refine eC (fst:=[]) (cap:=[]) 4 rfl T.fn205 rfl rfl (fy _ _ _) (sJ trivial) fun v2 G2 Ho2 hle2 hp=>?_
   obtain ⟨rfl,rfl,rfl⟩:=hp
   refine aR 11 [0] ?_
   rotate_left
   · exact absurd hok hc1
   refine cN 2 rfl (show _=Value.slice o (r2.set (p.code[(i:Int).toNat]?.getD default).to.toNat x).length d by rw [aG]) ?_
   refine cL ((i+1,_,r2.set (p.code[(i:Int).toNat]?.getD default).to.toNat x,rs.set (p.code[(i:Int).toNat]?.getD default).to.toNat z)) ?_ ?_
   · refine ⟨by omega,aQ hgx hle1,by rw [aG];exact hr2,by assumption,hg2.set hxz _,?_,Cp (x:=rs) hrun hz⟩
     have hs:=IC (i:=p.code[(i:Int).toNat]?.getD default) hb2 (by rw [←hrl];exact ma) (fun _=>by rw [←hrl];exact mb) (fun h=>(hk3 (fun e=>by rw [e] at h;omega) (fun e=>by rw [e] at h;omega) (fun e=>by rw [e] at h;omega) (fun e=>by rw [e] at h;omega)).2) hz
     rw [show m+3*(i+1)=m+3*i+3 by omega]
     exact ID (hb2.mono sE) hs _
   show p.code.length - (i+1)<p.code.length - i
   omega
 have hii:i=p.code.length:=sE
 subst hii
 refine bE 18 [0] ?_
 refine iR ?_
 refine mB [0] ?_
 exact ⟨r2,-1,rfl,rfl,hr2,ho2,.inl ⟨rs,hrun,rfl,hg2,hb2⟩⟩
end
theorem Sz {G:Imm} {r:List SV} {rs:List (List Int)} {k:Nat} {s:SV} (h:∀ q:Nat,q<k→BRow G (r[q]?.getD default) (rs[q]?.getD [])) (hk:k<r.length) (hs:BRow G s (rs[k]?.getD [])):∀ q:Nat,q<k+1→BRow G ((r.set k s)[q]?.getD default) (rs[q]?.getD []):=fun q hq=>by
 rw [cC]
 by_cases he:k=q
 · subst he;rw [aF rfl,aF hk];exact hs
 rw [aD he];exact h q sE
theorem Zw {G G':Imm} {r:List SV} {rs:List (List Int)} {k:Nat} (h:∀ q:Nat,q<k→BRow G (r[q]?.getD default) (rs[q]?.getD [])) (hl:G.le G'):∀ q:Nat,q<k→BRow G' (r[q]?.getD default) (rs[q]?.getD []):=fun q hq=>(h q hq).up hl
section
attribute [local irreducible] sI pb tY tF p2 cst wQ
theorem gd (G:Imm) (p:PV) (ac ao ga:Option Addr) (cc co gc:Nat) (gl:List SV) (gs:List (List Int)) (m N:Nat) (hc:Arr G ac p.code) (ho:Arr G ao p.outs) (hga:Arr G ga gl) (hgg:BGrid G gl gs) (hev:EvenB m N gs) (hN:N≤4096) (hR:sH p=true) (hgi:(gl.length:Int)=p.ins) :
 Does Tryz.prog 202 [.agg #[.int .i64 p.ins,.int .i64 p.regs,.slice ac p.code.length cc,.slice ao p.outs.length co],.slice ga gl.length gc] G [] (fun v G' Ho=>∃ b r,v=.tuple #[.slice (some ⟨b,0,none⟩) r.length p.regs.toNat,.int .i64 0]∧BGrid G' r (uI p gs)∧r.length=p.regs.toNat∧Ho=[(1,some b,Row 68 r [])]):=by
 obtain ⟨f1,f2,f3,f4,f5,f6,f7,f8⟩:=sK hR
 have h1:p.code.length≤1099511627776:=sE
 have h2:p.outs.length≤1099511627776:=sE
 have hgl:=hgg.1
 obtain ⟨R,hRR⟩:∃ R:Nat,p.regs=(R:Int):=⟨p.regs.toNat,by omega⟩
 refine D0 Tryz.func202 Tryz.ntmps202 fun w=>?_
 have hM:p.regs.toNat=R:=sE
 have hrl0:=vM p gs
 rw [hM] at hrl0
 have hgl0:0<gl.length:=sE
 obtain ⟨h0L,h0B⟩:=hev.at (k:=0) sE
 obtain ⟨l0,e1,e2,e3,e4⟩:=hgg.2 0 sE
 have h0n:(gl[(0:Int).toNat]?.getD default).n=N:=by
  show (gl[0]?.getD default).n=N
  rw [←e1,e4.1,h0L]
 refine aJ 2 [] ?_
 refine dQ 0 fun b1=>?_
 refine aL 10 [0] ?_
 refine cI rfl (ZN _ p _ _ _ _ sF sF h1 h2 hR _ hgi) ?_
 refine aL 15 [0] ?_
 refine fP (α:=SV) T.sl237 ?_
 refine eG rfl (cJ T.one68 rfl (iC sF sE 0 rfl rfl)) ?_
 refine aL 8 [0] ?_
 refine fV (α:=SV) 1 rfl T.sl237 T.el68 rfl rfl sE sE fun b2=>?_
 refine aZ 12 [] ?_
 rw [hM]
 have hown:∀ r:List SV,r.length=R→OwnA (some ⟨b2,0,none⟩) R r []:=fun r hr=>.inr ⟨b2,rfl,by rw [hr];rfl,by omega,by simp only [maxLen];omega⟩
 refine iI 8 rfl (show _=Value.slice (some ⟨b2,0,none⟩) (List.replicate R (default:SV)).length R by rw [aI]) ?_
 refine iI 7 rfl (show _=Value.int .i64 (N:Int) by rw [h0n]) ?_
 refine iI 25 rfl (show _=Value.int .i64 (R:Int) by rw [aI]) ?_
 refine Wc.lg (ι:=Nat×Imm×List SV) (fun (k,Gx,r)=>([(26,.int .i64 (k:Int)),(8,.slice (some ⟨b2,0,none⟩) r.length R),(25,.int .i64 (↑R:Int)),(7,.int .i64 (↑N:Int)),(1,.slice ga (List.length gl) gc)],[(1,some b2,Row 68 r []),(0,some b1,.cells #[.int .i64 p.ins,.int .i64 p.regs,.slice ac p.code.length cc,.slice ao p.outs.length co] 26)])) (fun (k,Gx,r)=>Gx) (fun (k,Gx,r)=>k≤R∧G.le Gx∧r.length=R∧∀ q:Nat,q<k→BRow Gx (r[q]?.getD default) ((uI p gs)[q]?.getD [])) (fun (k,Gx,r)=>R - k) ((0,G,List.replicate R (default:SV))) (⟨aM _,bK _,aI,fun q hq=>by omega⟩) fun ⟨k,Gx,r⟩=>fun hk=>?_
 obtain ⟨hk0,hgx,hrR,hrow⟩:=hk
 replace hga:=hga.up hgx
 replace hgg:=hgg.up hgx
 have hor:=hown r hrR
 rcases aK k R with hkR | hkR
 · by_cases hkg:k<gl.length
   · have hkn:(gl[(k:Int).toNat]?.getD default).n=N:=by
      obtain ⟨l1,a1,a2,a3,a4⟩:=hgg.2 k hkg
      rw [aE,←a1,a4.1]
      exact (hev.at (k:=k) sE).1
     refine aJ 22 [1] ?_
     refine fV (α:=IV) 2 rfl T.sl68 T.el125 rfl rfl sE sE fun b3=>?_
     refine gX (α:=SV) T.sl237 ?_
     refine gK 32 rfl (show _=Value.slice (some ⟨b3,0,none⟩) N N by rw [aI];rfl) ?_
     refine nU 2 (Row 125 (List.replicate N (default:IV)) []) rfl rfl ?_
     refine cU (z:=(⟨some ⟨b3,0,none⟩,N,N⟩:SV)) (m:=(k:Int)) 1 T.size68 rfl rfl rfl hor sE rfl fun ho1=>?_
     have hrk:((r.set k (⟨some ⟨b3,0,none⟩,N,N⟩:SV))[k]?.getD default)=⟨some ⟨b3,0,none⟩,N,N⟩:=by rw [cC,aF rfl,aF (by omega)];rfl
     have ho3:OwnA (some ⟨b3,0,none⟩) N (List.replicate N (default:IV)) []:=.inr ⟨b3,rfl,by rw [aI];rfl,by rw [aI];exact aH _,by simp only [maxLen];omega⟩
     rw [aE] at ho1 ⊢
     obtain ⟨r9,hr9⟩:∃ r9,r9=r.set k (⟨some ⟨b3,0,none⟩,N,N⟩:SV):=⟨_,rfl⟩
     have hr9l:r9.length=R:=by rw [hr9,aG];exact hrR
     rw [←hr9] at ho1 hrk ⊢
     refine aL 16 [1] ?_
     refine fP (α:=SV) T.sl237 ?_
     refine iY 0 T.one68 ?_
     refine aB 4 [] ?_
     refine oM 45 ?_
     refine aZ 10 [0] ?_
     refine cX [0,2,1] [(1,8),(2,8)] T.mixed [[0],[1]] ?_
     refine fH (α:=SV) 2 T.sl237 ?_
     refine dN 3 [0,1] rfl (fG 1 0 T.one68 rfl rfl sF sE rfl rfl) ?_
     refine dE [[4],[5]] ?_
     refine mQ (α:=SV) 6 T.sl237 ?_
     refine qU 7 [0] 0 T.one68 ?_
     refine bV 8 ?_
     obtain ⟨l1,a1,a2,a3,a4⟩:=hgg.2 k hkg
     have hl1:l1.length=N:=by rw [a1];exact hkn
     refine gK 52 rfl (show _=Value.slice (some ⟨b3,0,none⟩) (List.replicate N (default:IV)).length N by rw [aE,hrk,aI]) ?_
     refine gK 56 rfl (show _=Value.slice (gl[k]?.getD default).a l1.length (gl[k]?.getD default).c by rw [a1];rfl) ?_
     refine Gf (α:=IV) 2 rfl T.sl68 rfl rfl rfl (lC a3) (by rw [hl1,aI];exact aH _) ?_
     refine nU 2 (Row 125 l1 []) rfl (by rw [hl1,List.drop_replicate,hJ,List.replicate_zero,bR]) ?_
     have ho4:OwnA (some ⟨b3,0,none⟩) N l1 []:=.inr ⟨b3,rfl,by rw [hl1];rfl,by rw [hl1];exact aH _,by simp only [maxLen];omega⟩
     refine eZ ?_
     refine dX 6 [] ?_
     refine cQ 2 rfl ho4 fun G1 hle1 hA1=>?_
     refine cN 8 rfl (show _=Value.slice (some ⟨b2,0,none⟩) r9.length R by rw [hr9l,hrR]) ?_
     refine cL ((k+1,G1,r9)) ?_ ?_
     · have hs9:BRow G1 ⟨some ⟨b3,0,none⟩,N,N⟩ ((uI p gs)[k]?.getD []):=by
        rw [Bx sE,aF (by omega)]
        exact ⟨l1,hl1,aH _,hA1,a4.up hle1⟩
       refine ⟨by omega,aQ hgx hle1,hr9l,fun q hq=>?_⟩
       rw [hr9]
       exact Sz (Zw hrow hle1) sE hs9 q hq
     show R - (k+1)<R - k
     omega
   refine aJ 22 [1] ?_
   refine fV (α:=IV) 2 rfl T.sl68 T.el125 rfl rfl sE sE fun b3=>?_
   refine gX (α:=SV) T.sl237 ?_
   refine gK 32 rfl (show _=Value.slice (some ⟨b3,0,none⟩) N N by rw [aI];rfl) ?_
   refine nU 2 (Row 125 (List.replicate N (default:IV)) []) rfl rfl ?_
   refine cU (z:=(⟨some ⟨b3,0,none⟩,N,N⟩:SV)) (m:=(k:Int)) 1 T.size68 rfl rfl rfl hor sE rfl fun ho1=>?_
   have hrk:((r.set k (⟨some ⟨b3,0,none⟩,N,N⟩:SV))[k]?.getD default)=⟨some ⟨b3,0,none⟩,N,N⟩:=by rw [cC,aF rfl,aF (by omega)];rfl
   have ho3:OwnA (some ⟨b3,0,none⟩) N (List.replicate N (default:IV)) []:=.inr ⟨b3,rfl,by rw [aI];rfl,by rw [aI];exact aH _,by simp only [maxLen];omega⟩
   rw [aE] at ho1 ⊢
   obtain ⟨r9,hr9⟩:∃ r9,r9=r.set k (⟨some ⟨b3,0,none⟩,N,N⟩:SV):=⟨_,rfl⟩
   have hr9l:r9.length=R:=by rw [hr9,aG];exact hrR
   rw [←hr9] at ho1 hrk ⊢
   refine aR 18 [0] ?_
   refine cQ 2 rfl ho3 fun G1 hle1 hA1=>?_
   refine cN 8 rfl (show _=Value.slice (some ⟨b2,0,none⟩) r9.length R by rw [hr9l,hrR]) ?_
   refine cL ((k+1,G1,r9)) ?_ ?_
   · have hs9:BRow G1 ⟨some ⟨b3,0,none⟩,N,N⟩ ((uI p gs)[k]?.getD []):=by
      rw [Bx sE,aD (by omega),h0L]
      exact ⟨_,aI,aH _,hA1,oX _ _⟩
     refine ⟨by omega,aQ hgx hle1,hr9l,fun q hq=>?_⟩
     rw [hr9]
     exact Sz (Zw hrow hle1) sE hs9 q hq
   show R - (k+1)<R - k
   omega
 refine bE 20 [0] ?_
 refine fS (.inr rfl) (Ho:=[(1,some b2,Row 68 r [])]) rfl (.tmp rfl) (.tmp rfl) ⟨rfl,trivial⟩ ?_
 exact ⟨b2,r,rfl,⟨by omega,fun i hi=>hrow i sE⟩,hrR,rfl⟩
end
theorem IE {G:Imm} {q:List SV} {os:List (List Int)} {i:Nat} {s:SV} (h:∀ t:Nat,t<i→BRow G (q[t]?.getD default) (os[t]?.getD [])) (hq:q.length=i) (hs:BRow G s (os[i]?.getD [])):∀ t:Nat,t<i+1→BRow G ((q++[s])[t]?.getD default) (os[t]?.getD []):=fun t ht=>by
 rcases aK t i with h1 | h1
 · rw [bB sE];exact h t h1
 have e:t=i:=sE
 subst e
 rw [bT sE,hq,hJ];exact hs
theorem SY {p:PV} {rs:List (List Int)} {i:Nat} (hi:i<p.outs.length):(wG p rs)[i]?.getD []=rs[(p.outs[((i:Nat):Int).toNat]?.getD default).toNat]?.getD []:=by
 unfold wG
 rw [bN,aE,aA hi];rfl
section
attribute [local irreducible] sI pb tY tF p2 cst wQ
theorem gf (G:Imm) (a:Option Addr) (c:Nat) (l:List IV) (ha:Arr G a l) (hl:l.length≤1048576) :
 Does Tryz.prog 206 [.slice a l.length c] G [] (fun v G' Ho=>∃ s d,v=.slice s l.length d∧Arr G' s l∧l.length≤d∧Ho=[]):=by
 by_cases hne:a=none
 · have h0:l=[]:=by
    rcases ha.2 with h | ⟨b,o,h,_⟩
    · exact dT h
    rw [hne] at h;cases h
   subst hne
   subst h0
   have hyes:(none:Option Addr)=none:=rfl
   refine D0 Tryz.func206 Tryz.ntmps206 fun w=>?_
   refine aJ 9 [] ?_
   refine aO (jI T.sl68 rfl rfl) ?_
   refine aR 10 [1] ?_
   refine cP ?_
   exact ⟨none,0,rfl,kE _,aH _,rfl⟩
 refine D0 Tryz.func206 Tryz.ntmps206 fun w=>?_
 refine aJ 9 [] ?_
 refine aO (jI T.sl68 rfl rfl) ?_
 refine aL 7 [0] ?_
 refine rA 0 rfl T.sl68 fun b1=>?_
 refine aB 1 [] ?_
 refine nU 0 (Row 125 ([]:List IV) []) rfl rfl ?_
 refine gM (α:=IV) (xs:=[]) (ys:=l) (junk:=[]) 0 rfl T.sl68 T.el125 rfl rfl rfl (.inr ⟨b1,rfl,rfl,aH _,aM _⟩) (lC ha) (by rw [cH];omega) JK fun a1 c1 junk1 ho1=>?_
 rw [fW] at ho1 ⊢
 have hc1:=ho1.le
 refine aR 4 [] ?_
 refine cQ 0 rfl ho1 fun G1 hle1 hA1=>?_
 refine cP ?_
 exact ⟨a1,c1,rfl,hA1,hc1,rfl⟩
def NO (p:PV) (gs:List (List Int)) (m N:Nat) (v:Value) (G':Imm) (Ho:Hp):Prop:=
 Ho=[]∧((∃ os b r c',sQ p gs=some os∧v=.tuple #[.slice b (List.length r) c',.int .i64 0,.int .i64 0]∧Arr G' b r∧List.length r≤c'∧BGrid G' r os∧EvenB (m+3*p.code.length) N os)∨(sQ p gs=none∧∃ k,v=.tuple #[.slice none 0 0,.int .i64 k,.int .i64 20]))
theorem ZT (G:Imm) (p:PV) (ac ao ga:Option Addr) (cc co gc:Nat) (gl:List SV) (gs:List (List Int)) (m N:Nat) (hc:Arr G ac p.code) (ho:Arr G ao p.outs) (hga:Arr G ga gl) (hgg:BGrid G gl gs) (hev:EvenB m N gs) (hmm:m≤1048576) (hN:N≤4096) (hR:sH p=true) (hgi:(gl.length:Int)=p.ins) :
 Does Tryz.prog 155 [.agg #[.int .i64 p.ins,.int .i64 p.regs,.slice ac p.code.length cc,.slice ao p.outs.length co],.slice ga gl.length gc] G [] (NO p gs m N):=by
 obtain ⟨f1,f2,f3,f4,f5,f6,f7,f8⟩:=sK hR
 obtain ⟨R,hRR⟩:∃ R:Nat,p.regs=(R:Int):=⟨p.regs.toNat,by omega⟩
 refine D0 Tryz.func155 Tryz.ntmps155 fun w=>?_
 refine dZ 0 (Row 68 ([]:List SV) []) ?_
 refine aJ 2 [] ?_
 refine dQ 1 fun b1=>?_
 refine aL 9 [1] ?_
 refine bX 2 rfl (gd _ p ac ao ga cc co gc gl gs m N hc ho hga hgg hev hN hR hgi) fun v1 G1 Ho1 hle1 hp=>?_
 obtain ⟨b9,r0,rfl,hg0,hr0,rfl⟩:=hp
 replace hc:=hc.up hle1
 replace ho:=ho.up hle1
 have hrl0:=vM p gs
 have hm0:EvenB m N (uI p gs):=fun zs hz=>by
  unfold uI at hz
  obtain ⟨k,hk,rfl⟩:=dJ.1 hz
  have hN9:=(hev.at (k:=0) (by have:=hgg.1;omega)).1
  split
  · exact hev.at (k:=k) sE
  rw [hN9]
  exact ⟨aI,Lv m _⟩
 refine aZ 19 [0] ?_
 refine cX [0,1,3] [(3,3),(1,3),(0,3)] T.mixed [[1,1],[2]] ?_
 refine bV 0 ?_
 refine cI rfl (fw _) ?_
 refine cG 3 ?_
 refine bX 3 rfl (gb _ p gs ac ao cc co (some ⟨b9,0,none⟩) p.regs.toNat r0 [] m N hc (.inr ⟨b9,rfl,by rw [hr0];rfl,by omega,by simp only [maxLen];omega⟩) hg0 hm0 sE sE f4 sE sE f8) fun v9 G9 Ho9 hle9 hp=>?_
 obtain ⟨r9,k9,rfl,rfl,hr9,ho9,hcase⟩:=hp
 replace ho:=ho.up hle9
 rcases hcase with ⟨rs,hrs,rfl,hg9,he9⟩ | ⟨hno,hk9⟩
 · have hrs1:=hg9.1
   have lr9:r9.length=R:=sE
   have hfol:sQ p gs=some (wG p rs):=by unfold sQ;rw [hrs];rfl
   refine bD ?_
   refine dE [[4]] ?_
   refine cZ ?_
   refine mD 25 [0,1] ?_
   refine iI 7 rfl (show _=Value.slice (some ⟨b9,0,none⟩) r9.length p.regs.toNat by rw [hr9]) ?_
   refine iZ (ι:=Nat×Imm×List SV×(Option Addr×Nat×List Value)) (fun (i,Gx,q,(o,d,j))=>([(32,.int .i64 (i:Int)),(10,.slice o q.length d),(7,.slice (some (Addr.mk b9 0 none)) (List.length r9) (Int.toNat p.regs)),(31,.int .i64 (↑p.outs.length:Int)),(30,.slice ao p.outs.length co),(6,.int .i64 0),(5,.int .i64 0),(4,.slice none 0 0)],[(0,o.map (·.block),Row 68 q j),(3,some b9,Row 68 r9 []),(1,some b1,.cells #[.int .i64 p.ins,.int .i64 p.regs,.slice ac p.code.length cc,.slice ao p.outs.length co] 26)])) (fun (i,Gx,q,(o,d,j))=>Gx) (fun (i,Gx,q,(o,d,j))=>i≤p.outs.length∧G9.le Gx∧q.length=i∧(∀ t:Nat,t<i→BRow Gx (q[t]?.getD default) ((wG p rs)[t]?.getD []))∧OwnA o d q j) (fun (i,Gx,q,(o,d,j))=>p.outs.length - i) ((0,G9,[],(none,0,[]))) (⟨aM _,bK _,rfl,fun t ht=>by omega,eD⟩) rfl ⟨rfl,rfl,rfl,rfl,rfl,rfl,rfl,rfl,trivial⟩ ⟨rfl,rfl,rfl,trivial⟩ fun ⟨i,Gx,q,(o,d,j)⟩=>fun hk=>?_
   obtain ⟨hi0,hgx,hqi,hbq,hoq⟩:=hk
   replace ho:=ho.up hgx
   rcases aK i p.outs.length with hio | hio
   · have hmem:p.outs[(i:Int).toNat]?.getD default∈p.outs:=by
      rw [aE,aA hio];exact bI hio
     have hrg:=f7 _ hmem
     obtain ⟨l1,a1,a2,a3,a4⟩:=hg9.2 (p.outs[(i:Int).toNat]?.getD default).toNat sE
     have hN1:=(he9.at (k:=(p.outs[(i:Int).toNat]?.getD default).toNat) sE).1
     have hl1:l1.length=N:=by rw [a4.1,hN1]
     refine aJ 13 [1] ?_
     refine fP (α:=Int) T.sl24 ?_
     refine iY 0 T.one3 ?_
     refine aL 7 [] ?_
     refine gX (α:=SV) T.sl237 ?_
     refine mS 3 0 T.one68 ?_
     refine gK 40 rfl (show _=Value.slice (r9[(p.outs[(i:Int).toNat]?.getD default).toNat]?.getD default).a l1.length (r9[(p.outs[(i:Int).toNat]?.getD default).toNat]?.getD default).c by rw [a1]) ?_
     refine bX 20 rfl (gf _ _ _ l1 (a3.up hgx) sE) fun v1 G2 Ho1 hle2 hp=>?_
     obtain ⟨s2,d2,rfl,hA2,hd2,rfl⟩:=hp
     refine dY (α:=SV) 4 [⟨_,_,_⟩] rfl T.sl237 T.el68 rfl rfl rfl rfl rfl fun b2=>?_
     refine jS (α:=SV) 0 T.sl237 T.el68 (fE 4 rfl) fun a1 c1 junk1 ho1=>?_
     refine aR 8 [] ?_
     refine cL ((i+1,G2,q++[⟨s2,l1.length,d2⟩],(a1,c1,junk1))) ?_ ?_
     · refine ⟨by omega,aQ hgx hle2,by rw [aC,hqi];rfl,IE (fun t ht=>(hbq t ht).up hle2) hqi ?_,ho1⟩
       rw [SY hio]
       exact ⟨l1,rfl,hd2,hA2,a4.up (aQ hgx hle2)⟩
     show p.outs.length - (i+1)<p.outs.length - i
     omega
   have hii:i=p.outs.length:=sE
   subst hii
   have hqd:=hoq.le
   refine bE 21 [0] ?_
   refine cQ 0 rfl hoq fun G8 hle8 hA=>?_
   refine rC (.inr rfl) (Ho:=[]) rfl (.tmp rfl) (.tmp rfl) (.tmp rfl) trivial ?_
   have hol:(wG p rs).length=p.outs.length:=by unfold wG;rw [aP]
   refine ⟨rfl,.inl ⟨wG p rs,o,q,d,hfol,rfl,hA,hqd,⟨by omega,fun t ht=>(hbq t sE).up hle8⟩,fun zs hz=>?_⟩⟩
   unfold wG at hz
   obtain ⟨x,hx,rfl⟩:=dJ.1 hz
   have hx7:=f7 x hx
   exact he9.at (k:=x.toNat) sE
 refine bD ?_
 refine dE [[4]] ?_
 refine cZ ?_
 refine dX 18 [1] ?_
 refine rC (.inr rfl) (Ho:=[]) rfl (.tmp rfl) (.tmp rfl) (.tmp rfl) trivial ?_
 exact ⟨rfl,.inr ⟨hno,k9,rfl⟩⟩
end
section
attribute [local irreducible] sI pb tY tF p2 cst wQ
theorem gh (G:Imm) (n:Nat) (hn:n≤4096) :
 Does Tryz.prog 208 [.int .i64 (n:Int)] G [] (fun v G' Ho=>∃ b,v=.tuple #[.slice (some ⟨b,0,none⟩) (List.replicate n (default:IV)).length n,.int .i64 0]∧G'=G∧Ho=[(0,some b,Row 125 (List.replicate n (default:IV)) [])]):=by
 refine D0 Tryz.func208 Tryz.ntmps208 fun w=>?_
 refine aJ 12 [] ?_
 refine oM 6 ?_
 refine aL 13 [0] ?_
 refine fV (α:=IV) 0 rfl T.sl68 T.el125 rfl rfl sE sE fun b1=>?_
 refine aR 5 [] ?_
 refine fS (.inr rfl) (Ho:=[(0,some b1,Row 125 (List.replicate n (default:IV)) [])]) rfl (.tmp rfl) (.tmp rfl) ⟨rfl,trivial⟩ ?_
 exact ⟨b1,by simp,rfl,rfl⟩
theorem gi (G:Imm) (n j:Nat) (hn:n≤4096) (hj:j<n) :
 Does Tryz.prog 159 [.int .i64 (n:Int),.int .i64 (j:Int)] G [] (fun v G' Ho=>∃ s l d,v=.tuple #[.slice s (List.length l) d,.int .i64 0]∧Arr G' s l∧List.length l=n∧n≤d∧Bigs G' l (tW n j)∧Ho=[]):=by
 refine D0 Tryz.func159 Tryz.ntmps159 fun w=>?_
 refine aJ 9 [] ?_
 refine bX 0 rfl (gh _ n hn) fun v1 G1 Ho1 hle1 hp=>?_
 obtain ⟨b1,rfl,rfl,rfl⟩:=hp
 have ho3:OwnA (some ⟨b1,0,none⟩) n (List.replicate n (default:IV)) []:=.inr ⟨b1,rfl,by rw [aI];rfl,by rw [aI];exact aH _,by simp only [maxLen];omega⟩
 obtain ⟨r0,hr0⟩:∃ r0,r0=List.replicate n (default:IV):=⟨_,rfl⟩
 have lr0:r0.length=n:=by rw [hr0,aI]
 rw [←hr0] at ho3 ⊢
 refine aL 22 [0] ?_
 refine oM 20 ?_
 refine aL 18 [0] ?_
 refine bX 1 rfl (HE _ _ sN) fun v2 G2 Ho2 hle2 hp=>?_
 obtain ⟨ri2,rfl,hri2,rfl⟩:=hp
 refine gX (α:=IV) T.sl68 ?_
 refine cU (z:=ri2) (m:=(j:Int)) 0 T.size125 rfl rfl rfl ho3 sE rfl fun ho1=>?_
 have hB:Bigs G2 (r0.set j ri2) (tW n j):=by
  rw [hr0];unfold tW
  exact (oX G2 n).set j hri2
 have hl9:(r0.set j ri2).length=n:=by rw [aG];exact lr0
 rw [aE] at ho1 ⊢
 obtain ⟨r9,hr9⟩:∃ r9,r9=r0.set j ri2:=⟨_,rfl⟩
 rw [←hr9] at ho1 hB hl9 ⊢
 refine aR 10 [] ?_
 refine cQ 0 rfl ho1 fun G3 hle3 hA3=>?_
 refine cN 4 rfl (show _=Value.slice (some ⟨b1,0,none⟩) r9.length n by rw [hl9,lr0]) ?_
 refine gR ?_
 exact ⟨_,r9,n,rfl,hA3,hl9,aH _,hB.up hle3,rfl⟩
end
theorem Vp:pb 2=pw 4:=by unfold pb pw;decide
theorem Pf {N:Nat} {gs:List (List Int)} (h:WO 4 N gs):EvenB 2 N gs:=fun zs hz=>⟨(h zs hz).1,fun z hz'=>by rw [Vp];exact (h zs hz).2 z hz'⟩
theorem Zx (n j:Nat):Below 2 (tW n j):=fun z hz=>by
 rw [Vp];exact Of n j 4 sE z hz
theorem NQ {os:List (List Int)} {n:Nat} (hl:os.length=n):(os=(List.range n).map (tW n))↔∀ t:Nat,t<n→os[t]?.getD []=tW n t:=by
 constructor
 · intro h t ht
   rw [h,bN,eR ht];rfl
 intro h
 refine gF fun i=>?_
 rcases aK i n with h1 | h1
 · have:=h i h1
   rw [aA sE] at this ⊢
   rw [bN,eR h1]
   show some os[i]=some (tW n i)
   rw [←this];rfl
 rw [bP sE,bP (by rw [aP,bS];omega)]
section
attribute [local irreducible] sI pb pw tY tF p2 cst wQ sQ vJ sH tW
theorem XE (G:Imm) (p:PV) (ac ao:Option Addr) (cc co:Nat) (hc:Arr G ac p.code) (ho:Arr G ao p.outs) (h1:p.code.length≤1099511627776) (h2:p.outs.length≤1099511627776) (hP:¬sH p=true) :
 Does Tryz.prog 56 [.agg #[.int .i64 p.ins,.int .i64 p.regs,.slice ac p.code.length cc,.slice ao p.outs.length co]] G [] (fun v G' Ho=>v=.tuple #[.int .i64 (uD p).1,.int .i64 80]∧G'=G∧Ho=[]):=by
 have hf:(uD p).2=true:=by unfold sH at hP;simpa using hP
 have h:=YA G p ac ao cc co hc ho h1 h2
 rw [hf] at h
 exact h
theorem ZU (G:Imm) (p:PV) (ac ao:Option Addr) (cc co:Nat) (a:Option Addr) (c:Nat) (l:List R2) (hc:Arr G ac p.code) (ho:Arr G ao p.outs) (hcl:p.code.length≤1099511627776) (hol:p.outs.length≤1099511627776) (ha:Arr G a l) (hac:l.length≤c) (hl:l.length≤1048576) (hR:tL l) (hP:sH p=true) :
 Does Tryz.prog 111 [.agg #[.int .i64 p.ins,.int .i64 p.regs,.slice ac p.code.length cc,.slice ao p.outs.length co],.slice a l.length c] G [] (fun v G' Ho=>v=.tuple #[.bool (decide (tQ p l)),.int .i64 0]∧Ho=[]):=by
 have hl1:=hR.1
 have hl15:=hR.2.1
 have hev:=Pf (CQ hl15 (fun i hi=>(hR.2.2.1 i hi).1))
 have hgl:=Gh l
 obtain ⟨f1,f2,f3,f4,f5,f6,f7,f8⟩:=sK hP
 refine D0 Tryz.func111 Tryz.ntmps111 fun w=>?_
 by_cases hI:p.ins=l.length
 · by_cases hO:p.outs.length=l.length
   · refine aJ 2 [] ?_
     refine dQ 0 fun b1=>?_
     refine aL 7 [] ?_
     refine bX 1 rfl (MG _ a c l sF sE hac hR hl15 hR.2.2.1) fun v1 G1 Ho1 hle1 hp=>?_
     obtain ⟨gs1,gr1,gc1,rfl,hga1,hgb1,hgc1,rfl⟩:=hp
     replace hc:=hc.up hle1
     replace ho:=ho.up hle1
     replace ha:=ha.up hle1
     refine aL 21 [0,0] ?_
     refine cI rfl (Va _ p _ _ _ _ sF sF hcl hol hP) ?_
     refine aL 24 [0,0] ?_
     refine oM 35 ?_
     refine aL 22 [0,0,0] ?_
     refine bX 20 rfl (ZT _ p ac ao gs1 cc co gc1 gr1 (vJ l) 2 l.length sF sF sF sF hev sE sE hP (by rw [hgb1.1,hgl,hI])) fun v9 G9 Ho9 hle9 hp=>?_
     obtain ⟨rfl,⟨os,ob,orr,oc,hfo,rfl,hoA,hol9,hoB,hoE⟩ | ⟨hno,k9,rfl⟩⟩:=hp
     · have hos:=Oe hfo
       have hoL:=hoB.1
       replace ha:=ha.up hle9
       have hiff:tQ p l↔∀ t:Nat,t<l.length→os[t]?.getD []=tW l.length t:=by
        rw [←NQ sE]
        unfold tQ
        rw [hfo]
        exact ⟨fun h=>jD h.2.2.2,fun h=>⟨hP,hI,hO,by rw [h]⟩⟩
       refine aZ 28 [0] ?_
       refine Wc.lg (ι:=Nat×Imm) (fun (i,Gx)=>([(54,.int .i64 (i:Int)),(53,.int .i64 (orr.length:Int)),(52,.slice ob (List.length orr) oc),(1,.slice a (List.length l) c)],[(0,some b1,.cells #[.int .i64 p.ins,.int .i64 p.regs,.slice ac p.code.length cc,.slice ao p.outs.length co] 26)])) (fun (i,Gx)=>Gx) (fun (i,Gx)=>i≤l.length∧G9.le Gx∧∀ t:Nat,t<i→os[t]?.getD []=tW l.length t) (fun (i,Gx)=>l.length - i) ((0,G9)) (⟨aM _,bK _,fun t ht=>by omega⟩) fun ⟨i,Gx⟩=>fun hk=>?_
       obtain ⟨hi0,hgx,hall⟩:=hk
       replace hoA:=hoA.up hgx
       rcases aK i l.length with hil | hil
       · obtain ⟨l1,a1,a2,a3,a4⟩:=(hoB.up hgx).2 i sE
         have hE1:=hoE.at (k:=i) sE
         refine aJ 14 [1] ?_
         refine fP (α:=SV) T.sl237 ?_
         refine iY 0 T.one68 ?_
         refine aL 9 [] ?_
         refine bX 20 rfl (gi _ l.length i sE hil) fun v1 G2 Ho1 hle2 hp=>?_
         obtain ⟨s2,l2,d2,rfl,hA2,hl2,hd2,hB2,rfl⟩:=hp
         refine aL 11 [] ?_
         refine gK 66 rfl (show _=Value.slice (orr[i]?.getD default).a l1.length (orr[i]?.getD default).c by rw [a1];rfl) ?_
         refine bX 20 rfl (fd _ _ _ _ _ l1 l2 (os[i]?.getD []) (tW l.length i) (a3.up hle2) hA2 (a4.up hle2) hB2 (by rw [a4.1,hE1.1];omega) sE (2+3*p.code.length) sE hE1.2 ((Zx _ _).mono sE)) fun v1 G3 Ho1 hle3 hp=>?_
         obtain ⟨rfl,rfl,rfl⟩:=hp
         by_cases he:os[i]?.getD []=tW l.length i
         · have he2:¬¬(os[i]?.getD []=tW l.length i):=fun h=>h he
           refine aO (fF rfl) ?_
           refine aR 10 [0] ?_
           refine cL ((i+1,G3)) ?_ ?_
           · refine ⟨by omega,aQ hgx hle2,fun t ht=>?_⟩
             rcases aK t i with h1 | h1
             · exact hall t h1
             have e:t=i:=sE
             rw [e];exact he
           show l.length - (i+1)<l.length - i
           omega
         have hnI:¬tQ p l:=fun h=>he (hiff.1 h i hil)
         refine aO (fF rfl) ?_
         refine aR 15 [1] ?_
         refine gR ?_
         exact ⟨by rw [bQ hnI],rfl⟩
       have hyI:tQ p l:=hiff.2 (fun t ht=>hall t sE)
       refine bE 19 [0] ?_
       refine gR ?_
       exact ⟨by rw [cA hyI],rfl⟩
     have hnI:¬tQ p l:=fun h=>by have:=h.2.2.2;rw [hno] at this;cases this
     refine aR 25 [1] ?_
     refine gR ?_
     exact ⟨by rw [bQ hnI],rfl⟩
   have hnI:¬tQ p l:=fun h=>hO h.2.2.1
   refine aJ 2 [] ?_
   refine dQ 0 fun b1=>?_
   refine aL 7 [] ?_
   refine bX 1 rfl (MG _ a c l sF sE hac hR hl15 hR.2.2.1) fun v1 G1 Ho1 hle1 hp=>?_
   obtain ⟨gs1,gr1,gc1,rfl,hga1,hgb1,hgc1,rfl⟩:=hp
   replace hc:=hc.up hle1
   replace ho:=ho.up hle1
   replace ha:=ha.up hle1
   refine aL 21 [0,0] ?_
   refine cI rfl (Va _ p _ _ _ _ sF sF hcl hol hP) ?_
   refine aL 24 [0,0] ?_
   refine oM 35 ?_
   refine aR 24 [0,1] ?_
   refine gR ?_
   all_goals exact ⟨by rw [bQ hnI],rfl⟩
 have hnI:¬tQ p l:=fun h=>hI h.2.1
 refine aJ 2 [] ?_
 refine dQ 0 fun b1=>?_
 refine aL 7 [] ?_
 refine bX 1 rfl (MG _ a c l sF sE hac hR hl15 hR.2.2.1) fun v1 G1 Ho1 hle1 hp=>?_
 obtain ⟨gs1,gr1,gc1,rfl,hga1,hgb1,hgc1,rfl⟩:=hp
 replace hc:=hc.up hle1
 replace ho:=ho.up hle1
 replace ha:=ha.up hle1
 refine aL 21 [0,0] ?_
 refine cI rfl (Va _ p _ _ _ _ sF sF hcl hol hP) ?_
 refine aL 24 [0,0] ?_
 refine VC 35 ?_
 refine aR 18 [1] ?_
 refine gR ?_
 all_goals exact ⟨by rw [bQ hnI],rfl⟩
end
theorem IF {G:Imm} {n j:Nat} {x:IV} (hx:Big G x 1) (hj:j<n):Bigs G ((List.replicate n (default:IV)).set j x) (tW n j):=by
 unfold tW
 exact (oX G n).set j hx
section
attribute [local irreducible] sI Me pb pw tY tF p2 wH vJ sQ sH tW cst wQ
theorem gj (G:Imm) (k:Nat) (hk15:k≤15):Does Tryz.prog 156 [.int .i64 (k:Int)] G [] (fun v G' Ho=>∃ (s:Option Addr) (r:List SV) (c':Nat),v=.slice s r.length c'∧Arr G' s r∧BGrid G' r (uJ k)∧r.length≤c'∧Ho=[]):=by
 refine D0 Tryz.func156 Tryz.ntmps156 fun w=>?_
 refine dZ 9 (Row 68 ([]:List SV) []) ?_
 refine bJ 18 [] ?_
 refine iZ (ι:=Nat×Imm×List SV×(Option Addr×Nat×List Value)) (fun (i,Gx,r,(o,d,j))=>([(7,.int .i64 (i:Int)),(3,.slice o r.length d),(6,.int .i64 (↑k:Int)),(2,.slice none 0 0),(0,.int .i64 (↑k:Int))],[(9,o.map (·.block),Row 68 r j)])) (fun (i,Gx,r,(o,d,j))=>Gx) (fun (i,Gx,r,(o,d,j))=>i≤k∧G.le Gx∧r.length=i∧BGrid Gx r ((uJ k).take i)∧OwnA o d r j) (fun (i,Gx,r,(o,d,j))=>k - i) ((0,G,[],(none,0,[]))) (⟨aM _,bK _,rfl,by rw [cM];exact BGrid.nil _,eD⟩) rfl ⟨rfl,rfl,rfl,rfl,rfl,trivial⟩ ⟨rfl,trivial⟩ fun ⟨i,Gx,r,(o,d,j)⟩=>fun hk=>?_
 obtain ⟨hi1,hi2,hi3,hi4,hi5⟩:=hk
 rcases aK i k with hil | hil
 · refine aJ 20 [1] ?_
   refine fV (α:=IV) 10 rfl T.sl68 T.el125 rfl rfl sE sE fun b1=>?_
   refine aL 7 [] ?_
   refine bX 11 rfl (HE _ 1 sN) fun v1 G1 Ho1 hle1 hp=>?_
   obtain ⟨ro1,rfl,hro1,rfl⟩:=hp
   have ho2:OwnA (some ⟨b1,0,none⟩) (List.replicate ((k:Int)).toNat (default:IV)).length (List.replicate ((k:Int)).toNat (default:IV)) []:=fM (by rw [aI];simp only [maxLen];omega)
   refine aO (dO (α:=IV) T.sl68 rfl rfl ho2 DM) ?_
   refine cU (α:=IV) (z:=ro1) (m:=(i:Int)) 10 T.size125 rfl rfl rfl ho2 DM rfl fun ho3=>?_
   refine gB 10 rfl ho3 fun G3 hle3 hA3=>?_
   refine aL 5 [] ?_
   refine dY (α:=SV) 11 [⟨_,_,_⟩] rfl T.sl237 T.el68 rfl rfl rfl rfl rfl fun b2=>?_
   refine jS (α:=SV) 9 T.sl237 T.el68 (fE 11 rfl) fun a1 c1 junk1 ho1=>?_
   refine aR 8 [] ?_
   refine cN 7 rfl (show _=Value.int .i64 ((i+1:Nat):Int) from rfl) ?_
   refine cL ((i+1,_,r++[⟨some ⟨b1,0,none⟩,(List.replicate ((k:Int)).toNat (default:IV)).length,(List.replicate ((k:Int)).toNat (default:IV)).length⟩],(a1,c1,junk1))) ?_ ?_
   · refine ⟨by omega,aQ hi2 (aQ hle1 hle3),by rw [aC,hi3];rfl,?_,ho1⟩
     have e:(uJ k).take (i+1)=(uJ k).take i++[tW k i]:=by
      rw [cB]
      congr 1
      unfold uJ
      rw [bN,eR hil];rfl
     rw [e]
     exact BGrid.snoc (hi4.up (aQ hle1 hle3)) ⟨_,by rw [aG],aH _,hA3,(IF hro1 hil).up hle3⟩
   show k - (i+1)<k - i
   omega
 have hie:i=k:=sE
 subst hie
 have e:(uJ i).take i=uJ i:=dL (by rw [xR];exact aH _)
 rw [e] at hi4
 refine bE 19 [0] ?_
 refine cQ 9 rfl hi5 fun G8 hle8 hA8=>?_
 refine cP ?_
 exact ⟨_,_,_,rfl,hA8,hi4.up hle8,hi5.le,rfl⟩
end
theorem gk (G:Imm) (a:Option Addr) (c:Nat) (l:List R2) (ha:Arr G a l) (hl:l.length≤1048576) :
 Does Tryz.prog 33 [.slice a l.length c] G [] (fun v G' Ho=>∃ s d,v=.slice s l.length d∧Arr G' s l∧l.length≤d∧Ho=[]):=by
 refine D0 Tryz.func33 Tryz.ntmps33 fun w=>?_
 by_cases hne:a=none
 · subst hne
   have hl0:l=[]:=by
    rcases ha.2 with h0 | ⟨_,_,h,_⟩
    · exact List.length_eq_zero_iff.mp h0
    cases h
   subst hl0
   refine dZ 0 (Row 52 ([]:List R2) []) ?_
   refine aJ 9 [] ?_
   refine aO (jI T.sl22 rfl rfl) ?_
   refine aZ 2 [] ?_
   refine cT (fun hc1=>?_) fun hc1=>?_
   refine bE 7 [] ?_
   rotate_left
   refine aJ 4 [] ?_
   refine rA 1 rfl T.sl22 fun b1=>?_
   refine aB 1 [] ?_
   rotate_left
   refine cP ?_
   · exact ⟨none,0,rfl,⟨rfl,.inl rfl⟩,aH _,rfl⟩
   exact absurd rfl hc1
 refine aJ 9 [] ?_
 refine aO (jI T.sl22 rfl rfl) ?_
 refine aL 7 [0] ?_
 refine rA 0 rfl T.sl22 fun b1=>?_
 refine aB 1 [] ?_
 refine nU 0 (Row 52 ([]:List R2) []) rfl rfl ?_
 refine gM (α:=R2) (xs:=[]) (ys:=l) (junk:=[]) 0 rfl T.sl22 T.el52 rfl rfl rfl (.inr ⟨b1,rfl,rfl,aH _,aM _⟩) (lC ha) (by rw [cH];omega) JK fun a1 c1 junk1 ho1=>?_
 rw [fW] at ho1 ⊢
 refine aR 4 [] ?_
 refine cQ 0 rfl ho1 fun G1 hle1 harr1=>?_
 refine cP ?_
 exact ⟨a1,c1,rfl,harr1,ho1.le,rfl⟩
noncomputable instance (l:List R2):Decidable (Aq l):=Classical.propDecidable _
theorem ZV (G:Imm) (a:Option Addr) (c:Nat) (l:List R2) (ha:Arr G a l) (h1:l.length≤1048576):Does Tryz.prog 104 [.slice a l.length c,.func (.func 105) #[] #[]] G [] (fun v G' Ho=>v=.bool (decide (Aq l))∧G'=G∧Ho=[]):=by
 refine (en G a c l ha h1).mono fun v G' Ho _ ⟨b,e,h1,h2,h3⟩=>?_
 subst e
 refine ⟨?_,h2,h3⟩
 congr 1
 by_cases h:Aq l
 · rw [cA h];exact h1.2 h
 rw [bQ h]
 exact lG.2 (fun h2=>h (h1.1 h2))
theorem ck (G:Imm) (k1 k2:Int) (a:Option Addr) (c:Nat) (l:List R2) (ha:Arr G a l) (hl:l.length≤1048576) (hlc:l.length≤c) :
 Does Tryz.prog 54 [.int .i64 k1,.int .i64 k2,.slice a l.length c] G [] (fun v G' Ho=>∃ pv:Value,v=.tuple #[pv,.int .i64 (sU k1 k2 l)]∧Ho=[]):=by
 refine D0 Tryz.func54 Tryz.ntmps54 fun w=>?_
 refine aJ 10 [] ?_
 refine cI rfl (by apply ZJ <;> first | assumption | omega | rfl) ?_
 refine aO (fF rfl) ?_
 refine aB 1 [] ?_
 apply dP 4 16 20 rfl
 intro hg1
 refine aB 3 [] ?_
 refine cI rfl (by apply ZJ <;> first | assumption | omega | rfl) ?_
 refine aB 1 [] ?_
 refine aO (fF rfl) ?_
 refine aB 1 [] ?_
 exact dA 4 0
 intro hg1
 refine aB 4 [] ?_
 exact dA 4 0
 refine aZ 2 [] ?_
 refine cT (fun hc1=>?_) fun hc1=>?_
 refine bE 8 [] ?_
 rotate_left
 refine bJ 11 [] ?_
 rotate_left
 · refine gR ?_
   exact ⟨_,by rw [Ik (by unfold uN;omega)],rfl⟩
 have hP:uN k1∧uN k2:=by unfold uN;omega
 refine gY (ι:=Nat) (fun j=>([(23,.int .i64 (j:Int)),(0,.int .i64 k1),(1,.int .i64 k2),(2,.slice a l.length c),(22,.int .i64 (l.length:Int)),(21,.slice a (List.length l) c)],[])) (fun j=>j≤l.length∧∀ i:Nat,i<j→near (l[i]?.getD default).a (l[i]?.getD default).b) (fun j=>l.length - j) (0) (⟨aM _,fun i h=>absurd h sE⟩) fun j=>fun hk=>?_
 obtain ⟨hj,hno⟩:=hk
 refine bJ 6 [] ?_
 refine cT (fun hc2=>?_) fun hc2=>?_
 refine aJ 6 [] ?_
 refine fP (α:=R2) T.sl22 ?_
 refine lB T.agg52 ?_
 refine aN 0 rfl T.zero52 fun b1=>?_
 refine aL 6 [0,0] ?_
 refine cI rfl Lj ?_
 refine aO (fF rfl) ?_
 refine aZ 2 [] ?_
 refine cT (fun hc3=>?_) fun hc3=>?_
 refine bE 12 [] ?_
 rotate_left
 refine bE 7 [] ?_
 rotate_left
 refine aJ 16 [] ?_
 apply dP 3 38 41 rfl
 intro hg1
 refine aB 3 [] ?_
 refine cI rfl (ZV _ _ _ _ sF sE) ?_
 refine aB 1 [] ?_
 exact dA 3 0
 intro hg1
 refine aB 3 [] ?_
 exact dA 3 0
 refine aZ 2 [] ?_
 refine cT (fun hc3=>?_) fun hc3=>?_
 refine bE 8 [] ?_
 rotate_left
 refine aJ 5 [] ?_
 refine bX 0 rfl (ZG _ _ _ _ sF sE tJ) fun v1 G1 Ho1 hle1 hp=>?_
 obtain ⟨ti1,tj1,tb1,rfl,htb1,rfl,rfl⟩:=hp
 refine aZ 15 [] ?_
 refine kZ rfl (fun hc4=>?_) fun hc4=>?_
 refine bE 8 [] ?_
 rotate_left
 refine aJ 7 [] ?_
 refine bX 0 rfl (gk _ _ _ _ sF sE) fun v2 G2 Ho2 hle2 hp=>?_
 obtain ⟨s2,d2,rfl,hs2,hsd2,rfl⟩:=hp
 refine aO (bO (cs:=[_,_,_]) T.st176 rfl rfl rfl) ?_
 refine dQ 0 fun b1=>?_
 refine aR 5 [] ?_
 rotate_left
 · refine gR ?_
   exact ⟨_,by rw [Yp (fun h=>absurd (h j sE) sF)],rfl⟩
 · refine cN 23 rfl (show _=Value.int .i64 ((j+1:Nat):Int) from rfl) ?_
   refine cL (j+1) ?_ ?_
   · refine ⟨by omega,fun i hi=>?_⟩
     rcases aK i j with h | h
     · exact hno i h
     have e:i=j:=sE
     subst e;exact eP.1 sF
   omega
 · have hA:Dz l:=fun i hi=>hno i sE
   have e:sU k1 k2 l=71:=hc3.elim (fun h=>Sf hP hA h) (fun h=>Kb hP hA (.inl h))
   refine gR ?_
   exact ⟨_,by rw [e],rfl⟩
 · have hA:Dz l:=fun i hi=>hno i sE
   have e:sU k1 k2 l=71:=Kb hP hA (.inr (htb1.1 sF))
   refine gR ?_
   exact ⟨_,by rw [e],rfl⟩
 have hA:Dz l:=fun i hi=>hno i sE
 have e:sU k1 k2 l=0:=Yq hP hA (eE fun h=>hc3 (.inl h)) (fun h=>h.elim (fun h=>hc3 (.inr h)) (fun h=>absurd (htb1.2 h) (by rw [hc4];decide)))
 refine gR ?_
 exact ⟨_,by rw [e],rfl⟩
theorem c87 (G:Imm) (a:Option Addr) (c:Nat) (l:List R2) (ha:Arr G a l) (hl:l.length≤1048576) (hR:tL l) :
 Does Tryz.prog 87 [.slice a l.length c] G [] (fun v G' Ho=>v=.bool (decide (1=1))∧G'=G∧Ho=[]):=by
 refine D0 Tryz.func87 Tryz.ntmps87 fun w=>?_
 refine bJ 14 [] ?_
 refine gY (ι:=Nat) (fun j=>([(7,.int .i64 (j:Int)),(6,.int .i64 (l.length:Int)),(5,.slice a (List.length l) c),(0,.slice a (List.length l) c)],[])) (fun j=>j≤l.length) (fun j=>l.length - j) (0) (aM _) fun j=>fun (hk:j≤l.length)=>?_
 refine bJ 6 [] ?_
 refine cT (fun hc1=>?_) fun hc1=>?_
 refine aJ 6 [] ?_
 refine fP (α:=R2) T.sl22 ?_
 refine lB T.agg52 ?_
 refine aN 0 rfl T.zero52 fun b1=>?_
 refine aL 6 [0,0] ?_
 refine cI rfl Lj ?_
 refine aO (fF rfl) ?_
 refine aZ 2 [] ?_
 refine cT (fun hc2=>?_) fun hc2=>?_
 refine bE 11 [] ?_
 rotate_left
 refine bE 7 [] ?_
 rotate_left
 refine aJ 11 [] ?_
 apply bW 4 18 22 rfl
 intro hg1
 refine aB 7 [] ?_
 exact dA 4 0
 intro hg1
 refine aB 4 [] ?_
 exact dA 4 0
 refine aR 4 [] ?_
 rotate_left
 · exfalso
   have h:=(hR.2.2.1 j sE).1
   exact absurd h sF
 · refine cN 7 rfl (show _=Value.int .i64 ((j+1:Nat):Int) from rfl) ?_
   refine cL (j+1) ?_ ?_
   · omega
   omega
 refine cP ?_
 have h1:=hR.1
 have h2:=hR.2.1
 exact ⟨by rw [cA sE,cA rfl],rfl,rfl⟩
theorem Zy {x y:Int}:tY x y=0↔x=y:=by
 unfold tY
 split
 · omega
 split <;> omega
theorem CW {a b:Int} {n:Nat} (h:near a b) (hn:n≤15):Below 2 (wH a b n):=fun z hz=>by
 rw [Vp];exact (Se h hn).2 z hz
theorem ZW (G:Imm) (p:PV) (ac ao ga:Option Addr) (cc co gc:Nat) (gl:List SV) (gs:List (List Int)) (m N:Nat) (hc:Arr G ac p.code) (ho:Arr G ao p.outs) (hga:Arr G ga gl) (hgg:BGrid G gl gs) (hev:EvenB m N gs) (hmm:m≤1048576) (hN:N≤4096) (hR:sH p=true) (hgi:(gl.length:Int)=p.ins) (os:List (List Int)) (hf:sQ p gs=some os) :
 Does Tryz.prog 155 [.agg #[.int .i64 p.ins,.int .i64 p.regs,.slice ac p.code.length cc,.slice ao p.outs.length co],.slice ga gl.length gc] G [] (fun v G' Ho=>∃ b r c',v=.tuple #[.slice b (List.length r) c',.int .i64 0,.int .i64 0]∧Arr G' b r∧BGrid G' r os∧EvenB (m+3*p.code.length) N os∧Ho=[]):=by
 refine (ZT G p ac ao ga cc co gc gl gs m N hc ho hga hgg hev hmm hN hR hgi).mono fun v G' Ho _ h=>?_
 obtain ⟨h0,⟨os2,b,r,c',h1,h2,h3,h4,h5,h6⟩ | ⟨h1,_⟩⟩:=h
 · rw [hf] at h1
   obtain rfl:=jD h1
   exact ⟨b,r,c',h2,h3,h5,h6,h0⟩
 rw [hf] at h1;cases h1
section
attribute [local irreducible] sI Me pb pw tY tF p2 wH vJ sQ sH tW cst wQ
theorem ZX (G:Imm) (p:PV) (ac ao a:Option Addr) (cc co c k:Nat) (l:List R2) (hc:Arr G ac p.code) (ho:Arr G ao p.outs) (ha:Arr G a l) (hcl:p.code.length≤16384) (hol:p.outs.length≤1099511627776) (hRL:tL l) (hR:sH p=true) (hk1:1≤k) (hk8:k≤8) :
 Does Tryz.prog 108 [.agg #[.int .i64 p.ins,.int .i64 p.regs,.slice ac p.code.length cc,.slice ao p.outs.length co],.int .i64 (k:Int),.slice a l.length c] G [] (fun v G' Ho=>v=.tuple #[.bool (decide (uE p (k:Int) l)),.int .i64 0]∧Ho=[]):=by
 have hl15:l.length≤15:=hRL.2.1
 have hnr:∀ i:Nat,i<l.length→near (l[i]?.getD default).a (l[i]?.getD default).b:=fun i hi=>(hRL.2.2.1 i hi).1
 refine D0 Tryz.func108 Tryz.ntmps108 fun w=>?_
 refine aJ 2 [] ?_
 refine dQ 0 fun b1=>?_
 refine aL 10 [] ?_
 refine oM 22 ?_
 refine aB 6 [] ?_
 refine oM 26 ?_
 refine aB 3 [] ?_
 refine cI rfl (c87 _ _ _ _ sF sE hRL) ?_
 refine aB 1 [] ?_
 refine aO (fF rfl) ?_
 refine aL 9 [0,0] ?_
 refine cI rfl (Va _ p _ _ _ _ sF sF sE hol hR) ?_
 refine aL 25 [0,0] ?_
 apply dP 7 43 50 rfl
 intro hg1
 refine aB 13 [0] ?_
 exact dA 7 0
 intro hg1
 refine aB 7 [] ?_
 exact dA 7 0
 refine aZ 2 [] ?_
 refine cT (fun hc1=>?_) fun hc1=>?_
 refine bE 8 [] ?_
 rotate_left
 refine bJ 12 [0] ?_
 rotate_left
 · refine gR ?_
   exact ⟨by rw [bQ (fun h=>hc1.elim (fun h2=>h2 h.1) (fun h2=>h2 (by have:=h.2.1;omega)))],rfl⟩
 have hI:p.ins=(k:Int):=eE fun h=>hc1 (.inl h)
 have hO:p.outs.length=l.length:=eE fun h=>hc1 (.inr sE)
 refine gY (ι:=Nat) (fun j=>([(54,.int .i64 (j:Int)),(1,.int .i64 (k:Int)),(2,.slice a l.length c),(53,.int .i64 (↑p.code.length:Int)),(52,.slice ac p.code.length cc),(9,.int .i64 0),(3,.pointer (some ⟨b1,0,none⟩))],[(0,some b1,.cells #[.int .i64 p.ins,.int .i64 p.regs,.slice ac p.code.length cc,.slice ao p.outs.length co] 26)])) (fun j=>j≤p.code.length∧∀ i:Nat,i<j→¬((p.code[i]?.getD default).op=6∨(p.code[i]?.getD default).op=8)) (fun j=>p.code.length - j) (0) (⟨aM _,fun i h=>absurd h sE⟩) fun j=>fun hk=>?_
 obtain ⟨hj,hno⟩:=hk
 rcases aK j p.code.length with hjl | hjl
 · refine aJ 13 [1] ?_
   refine fP (α:=Sl.Instr) T.sl23 ?_
   refine lB T.agg91 ?_
   refine aN 1 rfl T.zero91 fun b2=>?_
   refine aL 9 [1,1] ?_
   apply dP 4 61 65 rfl
   intro hg1
   refine aB 7 [1] ?_
   exact dA 4 0
   intro hg1
   refine aB 4 [] ?_
   exact dA 4 0
   refine aZ 2 [] ?_
   refine cT (fun hc2=>?_) fun hc2=>?_
   refine bE 12 [] ?_
   rotate_left
   refine bE 7 [] ?_
   rotate_left
   · refine gR ?_
     refine ⟨by rw [bQ (fun h=>h.2.2.1 (p.code[j]?.getD default) (by rw [aA hjl];exact bI _) sF)],rfl⟩
   refine cN 54 rfl (show _=Value.int .i64 ((j+1:Nat):Int) from rfl) ?_
   refine cL (j+1) ?_ ?_
   · refine ⟨by omega,fun i hi=>?_⟩
     rcases aK i j with h | h
     · exact hno i h
     have e:i=j:=sE
     subst e;assumption
   show p.code.length - (j+1)<p.code.length - j
   omega
 have hND:yL p:=fun i hi=>by
  obtain ⟨t,ht,rfl⟩:=fL.1 hi
  have:=hno t sE
  rw [aA ht] at this
  exact this
 obtain ⟨os,hf⟩:=Uy hND (uJ k)
 have hosl:os.length=l.length:=by rw [Oe hf,hO]
 have hiff:uE p (k:Int) l↔∀ t:Nat,t<l.length→os[t]?.getD []=wH (l[t]?.getD default).a (l[t]?.getD default).b k:=by
  rw [←MK hosl]
  unfold uE
  rw [aE,hf]
  exact ⟨fun h=>jD h.2.2.2,fun h=>⟨hI,hO,hND,by rw [h]⟩⟩
 refine bJ 13 [0] ?_
 refine cX [0] [] T.mixed [[0,0],[1]] ?_
 refine bV 2 ?_
 refine bX 1 rfl (gj _ k sE) fun v1 G1 Ho1 hle1 hp=>?_
 obtain ⟨us1,ur1,uc1,rfl,huA1,huB1,huL1,rfl⟩:=hp
 replace hc:=hc.up hle1
 replace ho:=ho.up hle1
 replace ha:=ha.up hle1
 refine cG 3 ?_
 refine bX 1 rfl (ZW _ p _ _ _ _ _ _ _ (uJ k) 2 k sF sF sF sF (Pf (Yo k)) sE sE hR (by rw [huB1.1,xR];omega) os hf) fun v2 G2 Ho2 hle2 hp=>?_
 obtain ⟨ob2,or2,oc2,rfl,hoA2,hoB2,hoE2,rfl⟩:=hp
 replace huA1:=huA1.up hle2
 replace hc:=hc.up hle2
 replace ho:=ho.up hle2
 replace ha:=ha.up hle2
 refine bD ?_
 refine dE [[4],[5],[6],[7],[8],[9],[10]] ?_
 refine cZ ?_
 refine mD 20 [0] ?_
 have hol2:or2.length=l.length:=by rw [hoB2.1];exact hosl
 refine Wc.lg (ι:=Nat×Imm) (fun (i,Gx)=>([(79,.int .i64 (i:Int)),(1,.int .i64 (k:Int)),(2,.slice a l.length c),(78,.int .i64 (l.length:Int)),(77,.slice a (List.length l) c),(12,.slice ob2 (List.length or2) oc2)],[(0,some b1,.cells #[.int .i64 p.ins,.int .i64 p.regs,.slice ac p.code.length cc,.slice ao p.outs.length co] 26)])) (fun (i,Gx)=>Gx) (fun (i,Gx)=>i≤l.length∧G2.le Gx∧∀ t:Nat,t<i→os[t]?.getD []=wH (l[t]?.getD default).a (l[t]?.getD default).b k) (fun (i,Gx)=>l.length - i) ((0,G2)) (⟨aM _,bK _,fun t ht=>absurd ht sE⟩) fun ⟨i,Gx⟩=>fun hk=>?_
 obtain ⟨hi0,hgx,hall⟩:=hk
 replace ha:=ha.up hgx
 replace hoA2:=hoA2.up hgx
 rcases aK i l.length with hil | hil
 · have hnear:near (l[(i:Int).toNat]?.getD default).a (l[(i:Int).toNat]?.getD default).b:=hnr i hil
   refine aJ 14 [1] ?_
   refine fP (α:=R2) T.sl22 ?_
   refine lB T.agg52 ?_
   refine aN 1 rfl T.zero52 fun b2=>?_
   refine aL 8 [1,1] ?_
   refine bX 2 rfl (ZI _ _ _ k hnear sE) fun v3 G3 Ho3 hle3 hp=>?_
   obtain ⟨ps3,pr3,pc3,rfl,hpA3,hpB3,hpL3,rfl⟩:=hp
   replace ha:=ha.up hle3
   replace hoA2:=hoA2.up hle3
   refine aL 11 [] ?_
   refine fP (α:=SV) T.sl237 ?_
   refine iY 0 T.one68 ?_
   refine aZ 5 [] ?_
   obtain ⟨q,hq1,hq2,hq3,hq4⟩:=(hoB2.up (aQ hgx hle3)).2 i sE
   have hE:=hoE2.at (k:=i) sE
   have hql:q.length=k:=hq4.1.trans hE.1
   have hP:Below 2 (wH (l[i]?.getD default).a (l[i]?.getD default).b k):=CW (hnr i hil) sE
   have hpl:pr3.length=k:=hpB3.1.trans (Dy _ _ _)
   refine iI 93 rfl (show _=Value.slice (or2[(i:Int).toNat]?.getD default).a q.length (or2[(i:Int).toNat]?.getD default).c by rw [hq1];rfl) ?_
   refine iI 94 rfl (show _=Value.int .i64 (q.length:Int) by rw [hq1];rfl) ?_
   refine gY (ι:=Nat) (fun j=>([(95,.int .i64 (j:Int)),(93,.slice (or2[(i:Int).toNat]?.getD default).a q.length (or2[(i:Int).toNat]?.getD default).c),(94,.int .i64 (q.length:Int)),(16,.slice ps3 pr3.length pc3),(12,.slice ob2 or2.length oc2),(1,.int .i64 (k:Int)),(2,.slice a l.length c),(77,.slice a l.length c),(78,.int .i64 (l.length:Int)),(79,.int .i64 (i:Int))],[(1,some b2,.cells (List.toArray (Cells.enc (Option.getD l[Int.toNat (↑i:Int)]? default))) 52),(0,some b1,.cells #[.int .i64 p.ins,.int .i64 p.regs,.slice ac p.code.length cc,.slice ao p.outs.length co] 26)])) (fun j=>j≤k∧∀ t:Nat,t<j→(os[i]?.getD [])[t]?.getD 0=(wH (l[i]?.getD default).a (l[i]?.getD default).b k)[t]?.getD 0) (fun j=>k - j) (0) (⟨aM _,fun i h=>absurd h sE⟩) fun j=>fun hk=>?_
   obtain ⟨hj9,hjj⟩:=hk
   rcases aK j k with hjk | hjk
   · have hx:=hq4.at (k:=(j:Int)) sE
     have hy:=hpB3.at (k:=(j:Int)) sE
     have hxn:=gJ hx (hE.2.at _)
     have hyn:=gJ hy (hP.at _)
     refine aJ 14 [1] ?_
     refine fP (α:=IV) T.sl68 ?_
     refine lB T.agg125 ?_
     refine aN 2 rfl T.zero125 fun b3=>?_
     refine aZ 5 [2] ?_
     refine cX [0,1,2] [] T.mixed [[0,2],[1],[2]] ?_
     refine mQ (α:=IV) 3 T.sl68 ?_
     refine Gm.le 4 T.agg125 ?_
     refine bV 5 ?_
     refine cI rfl (WK _ _ _ _ _ hx hy sE sE) ?_
     refine bD ?_
     refine dE [[6]] ?_
     refine cZ ?_
     refine cO ?_
     refine cT (fun hc2=>?_) fun hc2=>?_
     refine bE 16 [] ?_
     rotate_left
     refine bE 7 [] ?_
     rotate_left
     · refine gR ?_
       have hne:¬((os[i]?.getD [])[j]?.getD 0=(wH (l[i]?.getD default).a (l[i]?.getD default).b k)[j]?.getD 0):=fun h=>absurd (Zy.2 h) sF
       exact ⟨by rw [bQ (fun h=>hne (by rw [hiff.1 h i hil]))],rfl⟩
     refine cN 95 rfl (show _=Value.int .i64 ((j+1:Nat):Int) from rfl) ?_
     refine cL (j+1) ?_ ?_
     · refine ⟨by omega,fun t ht=>?_⟩
       rcases aK t j with h | h
       · exact hjj t h
       have e:t=j:=sE
       subst e;exact Zy.1 (eP.1 sF)
     show k - (j+1)<k - j
     omega
   have hjk:j=k:=sE
   subst hjk
   refine bE 17 [0] ?_
   refine cN 79 rfl (show _=Value.int .i64 ((i+1:Nat):Int) from rfl) ?_
   refine cL ((i+1,G3)) ?_ ?_
   · refine ⟨by omega,aQ hgx hle3,fun t ht=>?_⟩
     rcases aK t i with h | h
     · exact hall t h
     have e:t=i:=sE
     subst e
     exact (SG hE.1 (Dy _ _ _)).2 hjj
   show l.length - (i+1)<l.length - i
   omega
 refine bE 19 [0] ?_
 refine gR ?_
 exact ⟨by rw [cA (hiff.2 (fun t ht=>hall t sE))],rfl⟩
end
end Go.Proofs.YtfdcckcadfhpeaaGreatDoor
