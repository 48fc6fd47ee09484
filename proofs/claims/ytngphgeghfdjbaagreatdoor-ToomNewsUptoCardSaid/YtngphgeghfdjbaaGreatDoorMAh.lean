/- sT of the proof (part 8): what the rows' text needs of the texts that lead to it. -/
import Derived.Test.YtngphgeghfdjbaaGreatDoorMAg
set_option linter.unusedVariables false
set_option linter.unusedSimpArgs false
set_option linter.unusedSectionVars false
set_option maxHeartbeats 4000000
noncomputable section
set_option maxRecDepth 100000
namespace Go.Sl.Ev
open Go Go.Sl
section
variable {P:Program} {op:Op} {nx n:Nat} {ρ:Pl} {E:Tr CV} {h:Tr CB} {ob:Nat→Obj} {a:Act} {c:CV}
theorem Jg {l:CV} {vs:List Value} (h:KL nx ρ l vs):Kn nx ρ (.agg l) (.agg vs.toArray):=⟨h.1,rF.2 ⟨vs,h.2,rfl⟩⟩
theorem Bn {l:CV} {v:Value} (h:Kn nx ρ (.agg l) v):∃ vs,KL nx ρ l vs∧v=.agg vs.toArray:=by
 obtain ⟨vs,h1,h2⟩:=rF.1 h.2
 exact ⟨vs,⟨h.1,h1⟩,h2⟩
theorem Uh {l:CV} {v:Value} (h:Kn nx ρ (.tup l) v):∃ vs,KL nx ρ l vs∧v=.tuple vs.toArray:=by
 obtain ⟨vs,h1,h2⟩:=pE.1 h.2
 exact ⟨vs,⟨h.1,h1⟩,h2⟩
theorem En {f:Nat} {x y:CV} {v:Value} (h:Kn nx ρ (.fn f x y) v):∃ xs ys,KL nx ρ x xs∧KL nx ρ y ys∧v=.func (.func f) xs.toArray ys.toArray:=by
 obtain ⟨xs,ys,h1,h2,h3⟩:=DV.fn.1 h.2
 exact ⟨xs,ys,⟨h.1.1,h1⟩,⟨h.1.2,h2⟩,h3⟩
theorem zU {t o m sz:Nat} {cc:Option Nat} {v:Value} (h:Kn nx ρ (.sl t o m sz cc) v):∃ c',v=.slice (some ⟨(ρ t).1,o,none⟩) m c':=by
 cases cc with
 | some c=>exact ⟨c,(jG.1 h.2).1⟩
 | none=>obtain ⟨c,h1,_⟩:=mK.1 h.2;exact ⟨c,h1⟩
theorem Ag {m:Int} {N:Nat} (hb:(uO 0 m && not (uO N m))=true):0≤m∧m<N:=by
 simp only [aB,dV,sZ,aQ,dH] at hb
 omega
theorem De {s:CV} {v:Value} (h:Kn nx ρ (.str s) v):∃ bs:List UInt8,v=.string ⟨bs.toArray⟩∧KL nx ρ s (bs.map fun b=>Value.int .u8 b.toNat):=by
 obtain ⟨vs,bs,h1,h2,h3⟩:=h.2
 subst h2
 exact ⟨bs,h3,h.1,h1⟩
theorem Xb (hs:Slots ρ E nx n a) (hm:∀ t b,FS E op=some t→h.get t=some b→DB nx ρ (ρ t).2 b (ob t)) (hq:qv P E h op=some c):Yd P op nx ρ E ob a c:=by
 unfold qv at hq
 unfold SE qv3 qv4 SF SG qv7 SH SI QB JY QC JZ QD QE QF QG AF QH QI QJ at hq
 split at hq
 · -- move
   obtain ⟨v,e1,k1⟩:=rM hs hq
   exact eK k1 fun ty=>Qy.move e1
 · obtain ⟨v,e1,k1⟩:=rM hs hq
   exact eK k1 fun ty=>Qy.assign e1
 · -- pick
   split at hq
   · rename_i b hb
     obtain ⟨v,e1,k1⟩:=rM hs hb
     obtain ⟨u,e2,k2⟩:=rM hs hq
     rw [pX.1 k1.2] at e1
     exact eK k2 fun ty=>Qy.pick e1 e2
   cases hq
 · -- not
   split at hq
   · rename_i b hb
     cases hq
     obtain ⟨v,e1,k1⟩:=rM hs hb
     rw [pX.1 k1.2] at e1
     exact eK Hb fun ty=>Qy.not e1
   cases hq
 · -- neg
   split at hq
   · rename_i k m hb
     cases hq
     obtain ⟨v,e1,k1⟩:=rM hs hb
     rw [fY.1 k1.2] at e1
     refine eK vW fun ty=>?_
     rw [Jb]
     exact mA e1
   cases hq
 · -- binOp
   split at hq
   · rename_i k m hx
     split at hq
     · rename_i k' n' hy
       obtain ⟨v,e1,k1⟩:=rM hs hx
       obtain ⟨u,e2,k2⟩:=rM hs hy
       rw [fY.1 k1.2] at e1
       rw [fY.1 k2.2] at e2
       split at hq
       · rename_i c' hc
         cases hq
         obtain ⟨v',hk,hq⟩:=PY (P:=P) (H:=[]) (G:=fun _=>none) (nx:=nx) (ρ:=ρ) e1 e2 hc
         exact eK hk hq
       rcases rK hq with ⟨hk,hr1⟩ | ⟨_,hr1⟩
       · have:=Dw hk
         subst this
         obtain ⟨v',hk,hr1⟩:=PX (P:=P) (H:=[]) (G:=fun _=>none) (nx:=nx) (ρ:=ρ) e1 e2 hr1
         exact eK hk hr1
       cases hr1
     cases hq
   · rename_i ca hne hx
     split at hq
     · rename_i cb hy
       split at hq
       · rename_i r hr
         obtain ⟨v,e1,k1⟩:=rM hs hx
         obtain ⟨u,e2,k2⟩:=rM hs hy
         have he:=fun t'=>MY (t':=t') (H:=[]) (G:=fun _=>none) hr k1 k2 e1 e2
         split at hq
         · cases hq;exact eK Hb (he _).1
         · cases hq;exact eK Hb (he _).2
         cases hq
       cases hq
     cases hq
   cases hq
 · -- convert
   split at hq
   · rename_i k' ht
     split at hq
     · rename_i d hd
       split at hq
       · rename_i k m hx
         cases hq
         obtain ⟨v,e1,k1⟩:=rM hs hx
         rw [fY.1 k1.2] at e1
         refine eK vW fun ty=>?_
         rw [Jb]
         exact jX (by rw [hd];rfl) ht e1
       cases hq
     cases hq
   cases hq
 · -- extract
   split at hq
   · rename_i l hx
     obtain ⟨v,e1,k1⟩:=rM hs hx
     obtain ⟨vs,k2,rfl⟩:=Uh k1
     obtain ⟨u,e2,k3⟩:=Ae k2 hq
     exact eK k3 fun ty=>Qy.extract e1 e2
   cases hq
 · -- nilCheck
   split at hq
   · rename_i t o hx
     cases hq
     obtain ⟨v,e1,k1⟩:=rM hs hx
     have e2:=lK.1 k1.2
     subst e2
     exact eK k1 fun ty=>Qy.nilCheck e1
   · rename_i t hx
     cases hq
     obtain ⟨v,e1,k1⟩:=rM hs hx
     have e2:=DV.mp.1 k1.2
     subst e2
     exact eK k1 fun ty=>Nc e1
   · rename_i f x y hx
     cases hq
     obtain ⟨v,e1,k1⟩:=rM hs hx
     obtain ⟨xs,ys,_,_,rfl⟩:=En k1
     exact eK k1 fun ty=>Nd e1
   · rename_i t hx
     cases hq
     obtain ⟨v,e1,k1⟩:=rM hs hx
     have e2:v=.func (.yield (ρ t).1) #[] #[]:=k1.2
     subst e2
     exact eK k1 fun ty=>Nf e1
   cases hq
 · -- fieldAddr
   split at hq
   · rename_i t o hx
     split at hq
     · rename_i k hk
       cases hq
       obtain ⟨v,e1,k1⟩:=rM hs hx
       have e2:=lK.1 k1.2
       subst e2
       exact eK (c:=.ptr t (Nat.add o k)) ⟨k1.1,rfl⟩ fun ty=>Qy.fieldAddr (MT hk) e1
     cases hq
   cases hq
 · -- field
   split at hq
   · rename_i l hx
     obtain ⟨v,e1,k1⟩:=rM hs hx
     obtain ⟨vs,k2,rfl⟩:=Bn k1
     split at hq
     · rename_i fs hu
       split at hq
       · rename_i fd hf
         rw [vE] at hf
         rcases rK hq with ⟨h1,hr1⟩ | ⟨_,hr1⟩
         · obtain ⟨u,e2,k3⟩:=Ae k2 hr1
           exact eK k3 fun ty=>AB hu (by simpa using hf) h1 e1 e2
         split at hr1
         · rename_i k hk
           cases hr1
           exact eK (Jg (Cy k (Cx fd.offset k2))) fun ty=>AC hu (by simpa using hf) (FL hk) e1
         cases hr1
       cases hq
     cases hq
   cases hq
 · -- load
   rename_i T x
   split at hq
   · rename_i t o hx
     split at hq
     · rename_i l bt op' st hb
       obtain ⟨v,e1,k1⟩:=rM hs hx
       have e2:=lK.1 k1.2
       subst e2
       have hrd:FS E (.load T x)=some t:=by show (match sU E x with | some (.ptr t _)=>some t | _=>none)=some t;rw [hx]
       obtain ⟨vs,junk,kl,eo,_,_⟩:=hm t _ hrd hb
       rcases rK hq with ⟨h1,hr1⟩ | ⟨_,hr1⟩
       · obtain ⟨u,e2,k3⟩:=Wy kl hr1
         refine Yd.read hrd k3 fun ty=>Qy.load 0 h1 e1 (by rw [eo];rfl) ?_
         rw [aZ (aV.1 e2).1];exact e2
       split at hr1
       · rename_i k hk
         rcases rK hr1 with ⟨h2,hr2⟩ | ⟨_,hr2⟩
         · cases hr2
           have kk:=vV kl (aD (by first | exact hb2 | exact h2 | exact hb | assumption))
           have hlen:=sJ kk
           rw [aD h2] at hlen
           refine Yd.read hrd (Jg kk) fun ty=>eI 0 (FL hk) e1 (by rw [eo];rfl) ?_ hlen.symm
           have h3:o+k≤vs.length∨k=0:=by
            rw [bC,dM] at hlen
            omega
           rcases h3 with h3 | h3
           · rw [eM rG,fA Ux]
           subst h3;simp
         cases hr2
       cases hr1
     cases hq
   cases hq
 · -- makeFunc
   split at hq
   · rename_i x hx
     split at hq
     · rename_i y hy
       cases hq
       obtain ⟨us,e1,k1⟩:=Gu hs hx
       obtain ⟨vs,e2,k2⟩:=Gu hs hy
       exact eK ⟨⟨k1.1,k2.1⟩,DV.fn.2 ⟨us,vs,k1.2,k2.2,rfl⟩⟩ fun ty=>nB e1 e2
     cases hq
   cases hq
 · -- indexAddr
   split at hq
   · rename_i k m hi
     obtain ⟨vi,ei,ki⟩:=rM hs hi
     rw [fY.1 ki.2] at ei
     split at hq
     · rename_i t o N sz cc hx
       split at hq
       · rename_i E' sz' hT
         rcases rK hq with ⟨h1,hr1⟩ | ⟨_,hr1⟩
         · cases hr1
           have h1':Nat.beq sz sz'=true∧(uO 0 m && not (uO N m))=true:=by simpa only [aB] using h1
           have:=aD h1'.1
           subst this
           obtain ⟨v,e1,k1⟩:=rM hs hx
           obtain ⟨c',rfl⟩:=zU k1
           exact eK (c:=.ptr t (Nat.add o (Nat.mul m.toNat sz))) ⟨k1.1,rfl⟩ fun ty=>dF (uG hT) e1 ei (Ag h1'.2)
         cases hr1
       cases hq
     · rename_i t o hx
       split at hq
       · rename_i N E' sz hT
         rcases rK hq with ⟨h1,hr1⟩ | ⟨_,hr1⟩
         · cases hr1
           obtain ⟨v,e1,k1⟩:=rM hs hx
           have e2:=lK.1 k1.2
           subst e2
           exact eK (c:=.ptr t (Nat.add o (Nat.mul m.toNat sz))) ⟨k1.1,rfl⟩ fun ty=>Lb (Em hT).1 (Em hT).2 e1 ei (Ag h1)
         cases hr1
       cases hq
     cases hq
   cases hq
 · -- index
   split at hq
   · rename_i k m hi
     obtain ⟨vi,ei,ki⟩:=rM hs hi
     rw [fY.1 ki.2] at ei
     split at hq
     · rename_i l hx
       split at hq
       · rename_i N E' sz hT
         rcases rK hq with ⟨h1,hr1⟩ | ⟨_,hr1⟩
         · have h1':Nat.beq sz 1=true∧tZ P E'=true∧(uO 0 m && not (uO N m))=true:=by simpa only [aB] using h1
           have:=aD h1'.1
           subst this
           obtain ⟨v,e1,k1⟩:=rM hs hx
           obtain ⟨vs,k2,rfl⟩:=Bn k1
           obtain ⟨u,e2,k3⟩:=Ae k2 hr1
           exact eK k3 fun ty=>Qy.indexV (Em hT).1 h1'.2.1 (Em hT).2 e1 ei (Ag h1'.2.2) e2
         rcases rK hr1 with ⟨h2,hr2⟩ | ⟨_,hr2⟩
         · have h2':uS P E' sz=true∧Nat.ble 1 sz=true∧(uO 0 m && not (uO N m))=true:=by simpa only [aB] using h2
           cases hr2
           obtain ⟨v,e1,k1⟩:=rM hs hx
           obtain ⟨vs,k2,rfl⟩:=Bn k1
           exact eK (Jg (Cy sz (Cx (Nat.mul m.toNat sz) k2))) fun ty=>Ue (Em hT).1 h2'.1 e1 ei (Ag h2'.2.2)
         cases hr2
       cases hq
     cases hq
   cases hq
 · -- slice
   split at hq
   · rename_i t o N sz cc hx
     split at hq
     · rename_i E' sz' hT
       rcases rK hq with ⟨h1,hr1⟩ | ⟨_,hr1⟩
       · have:=aD h1
         subst this
         split at hr1
         · rename_i l hl
           split at hr1
           · rename_i hi hh
             obtain ⟨v,e1,k1⟩:=rM hs hx
             obtain ⟨h2,h3,c',rfl,h4,k2⟩:=KA k1 hr1
             exact eK k2 fun ty=>Fp (uG hT) e1 (Je hs hl h2) (Jf hs hh rG) rG h4
           cases hr1
         cases hr1
       cases hr1
     cases hq
   · rename_i hx
     split at hq
     · rename_i x' hT
       obtain ⟨E',sz⟩:=x'
       split at hq
       · rename_i l hl
         split at hq
         · rename_i hi hh
           rcases rK hq with ⟨h1,hr1⟩ | ⟨_,hr1⟩
           · cases hr1
             simp only [aB,uR,aQ] at h1
             obtain ⟨rfl,rfl⟩:=h1
             obtain ⟨v,e1,k1⟩:=rM hs hx
             have e2:=mL.1 k1.2
             subst e2
             exact eK k1 fun ty=>Fp (uG hT) e1 (Je hs hl rG) (Jf hs hh rG) (aH _) (aH _)
           cases hr1
         cases hq
       cases hq
     cases hq
   cases hq
 · -- slice,its room too
   split at hq
   · rename_i t o N sz cc hx
     split at hq
     · rename_i E' sz' hT
       rcases rK hq with ⟨h1,hr1⟩ | ⟨_,hr1⟩
       · have:=aD h1
         subst this
         split at hr1
         · rename_i l hl
           split at hr1
           · rename_i hi hh
             split at hr1
             · rename_i kz m hz
               rcases rK hr1 with ⟨h2,hr2⟩ | ⟨_,hr2⟩
               · obtain ⟨v,e1,k1⟩:=rM hs hx
                 obtain ⟨vz,ez,kkz⟩:=rM hs hz
                 rw [fY.1 kkz.2] at ez
                 have h2':0≤l∧l≤hi∧hi≤m∧LC m N cc=true:=by
                  simpa only [aB,sZ,aQ] using h2
                 obtain ⟨q1,q2,q3,q4⟩:=h2'
                 have hC:∃ C,v=.slice (some ⟨(ρ t).1,o,none⟩) N C∧m.toNat≤C∧o+C*sz≤(ρ t).2∧C≤maxLen:=by
                  cases cc with
                  | some c =>
                    obtain ⟨g1,g2,g3,g4⟩:=jG.1 k1.2
                    have q4':m≤(c:Int):=by
                     have q5:uO m c=true:=q4
                     simpa only [sZ,aQ] using q5
                    exact ⟨c,g1,by omega,g2,g4⟩
                  | none =>
                    obtain ⟨c,g1,g2,g3,g4⟩:=mK.1 k1.2
                    have q4':m≤(N:Int):=by
                     have q5:uO m N=true:=q4
                     simpa only [sZ,aQ] using q5
                    exact ⟨c,g1,by omega,by omega,g4⟩
                 obtain ⟨C,rfl,hmC,hsz,hCm⟩:=hC
                 have hLh:=Jf hs hh (show 0≤hi by omega)
                 have hQ:=fun ty=>Mk (P:=P) (H:=[]) (G:=fun _=>none) (ty:=ty) (uG hT) e1 (Je hs hl q1) (h:=hi.toNat) (m:=m.toNat) (kz:=kz) ⟨_,rfl,hLh⟩ (by rw [cL rG];exact ez) rG rG hmC
                 rcases rK hr2 with ⟨h3,hr3⟩ | ⟨h3,hr3⟩
                 · cases hr3
                   have h3':=aD h3
                   refine eK ⟨k1.1,jG.2 ⟨rfl,by omega,?_,by simp [maxLen]⟩⟩ fun ty=>?_
                   · show hi.toNat - l.toNat≤0;omega
                   have:=hQ ty
                   rw [aR h3',show m.toNat - l.toNat=0 by omega] at this
                   exact this
                 cases hr3
                 have h3':m.toNat≠l.toNat:=fun e=>by rw [e] at h3;simp at h3
                 refine eK ⟨k1.1,jG.2 ⟨rfl,?_,?_,?_⟩⟩ fun ty=>?_
                 · show o+l.toNat*sz+(m.toNat - l.toNat)*sz≤_
                   have e1:l.toNat*sz+(m.toNat - l.toNat)*sz=m.toNat*sz:=by rw [←eL];congr 1;omega
                   have e2:m.toNat*sz≤C*sz:=gC _ hmC
                   omega
                 · show hi.toNat - l.toNat≤m.toNat - l.toNat;omega
                 · show m.toNat - l.toNat≤_;omega
                 have:=hQ ty
                 rw [aK h3'] at this
                 show Qy P _ ty _ _ _ (.slice (some ⟨(ρ t).1,o+l.toNat*sz,none⟩) (hi.toNat - l.toNat) (m.toNat - l.toNat))
                 rw [←add_lit]
                 exact this
               cases hr2
             cases hr1
           cases hr1
         cases hr1
       cases hr1
     cases hq
   · rename_i hx
     split at hq
     · rename_i x' hT
       obtain ⟨E',sz⟩:=x'
       split at hq
       · rename_i l hl
         split at hq
         · rename_i hi hh
           split at hq
           · rename_i kz m hz
             rcases rK hq with ⟨h1,hr1⟩ | ⟨_,hr1⟩
             · cases hr1
               simp only [aB,uR,aQ] at h1
               obtain ⟨rfl,rfl,rfl⟩:=h1
               obtain ⟨v,e1,k1⟩:=rM hs hx
               have e2:=mL.1 k1.2
               subst e2
               obtain ⟨vz,ez,kkz⟩:=rM hs hz
               rw [fY.1 kkz.2] at ez
               refine eK k1 fun ty=>?_
               have:=Mk (P:=P) (H:=[]) (G:=fun _=>none) (ty:=ty) (uG hT) e1 (Je hs hl rG) (h:=0) (m:=0) (kz:=kz) ⟨_,rfl,Jf hs hh rG⟩ ez (aH _) (aH _) (aH _)
               exact this
             cases hr1
           cases hq
         cases hq
       cases hq
     cases hq
   cases hq
 · -- build
   rename_i t parts
   split at hq
   · rename_i fs hu
     split at hq
     · rename_i pl hpl
       split at hq
       · rename_i z hz
         split at hq
         · rename_i l hf
           cases hq
           obtain ⟨i,zv,hi,hzv,kz⟩:=Jc hz nx ρ
           obtain ⟨vs,e1,o1,k1⟩:=Dd hs kz hf
           rw [sJ kz] at o1
           refine eK (Jg k1) fun ty=>gI (pl:=pl) (zs:=zv.cells.toList) ⟨zv,fs.toArray,hu,fun w=>?_,by simp,MV hpl⟩ e1 o1 rfl
           simp [zeroValue,typeInfo,hi,hzv]
         cases hq
       cases hq
     cases hq
   · rename_i N E' hu
     split at hq
     · rename_i sz hsz
       split at hq
       · rename_i z hz
         split at hq
         · rename_i l hf
           cases hq
           obtain ⟨i,zv,hi,hzv,kz⟩:=Jc hz nx ρ
           obtain ⟨vs,e1,o1,k1⟩:=Dd hs kz hf
           rw [sJ kz] at o1
           refine eK (Jg k1) fun ty=>Ls (n:=N) (sz:=sz) (zs:=zv.cells.toList) ⟨zv,E',hu,fun w=>?_,by simp,Bl hsz⟩ e1 o1 rfl
           simp [zeroValue,typeInfo,hi,hzv]
         cases hq
       cases hq
     cases hq
   cases hq
 · -- len
   split at hq
   · rename_i t o N sz cc hx
     split at hq
     · rename_i x' hT
       obtain ⟨E',sz'⟩:=x'
       cases hq
       obtain ⟨v,e1,k1⟩:=rM hs hx
       obtain ⟨c',rfl⟩:=zU k1
       exact eK vW fun ty=>Qy.len (uG hT) e1
     cases hq
   · rename_i hx
     split at hq
     · rename_i x' hT
       obtain ⟨E',sz'⟩:=x'
       cases hq
       obtain ⟨v,e1,k1⟩:=rM hs hx
       have e2:=mL.1 k1.2
       subst e2
       exact eK vW fun ty=>Qy.len (uG hT) e1
     cases hq
   · rename_i hx
     split at hq
     · rename_i x' hT
       obtain ⟨E',sz'⟩:=x'
       cases hq
       obtain ⟨v,e1,k1⟩:=rM hs hx
       obtain ⟨a',c',rfl⟩:=k1.2
       exact eK vW fun ty=>Qy.len (uG hT) e1
     cases hq
   · rename_i s hx
     split at hq
     · rename_i hT
       cases hq
       obtain ⟨v,e1,k1⟩:=rM hs hx
       obtain ⟨bs,rfl,k2⟩:=De k1
       have e3:=sJ k2
       rw [bS] at e3
       refine eK (v:=.int .i64 ((ByteArray.mk bs.toArray).size:Int)) ?_ fun ty=>JS hT e1
       rw [show (ByteArray.mk bs.toArray).size=bs.length from by show bs.toArray.size=_;simp,←e3]
       exact vW
     cases hq
   cases hq
 · -- cap
   split at hq
   · rename_i t o N sz cc hx
     split at hq
     · rename_i x' hT
       obtain ⟨E',sz'⟩:=x'
       cases hq
       obtain ⟨v,e1,k1⟩:=rM hs hx
       have e2:=(jG.1 k1.2).1
       subst e2
       exact eK vW fun ty=>Qy.cap (uG hT) e1
     cases hq
   · rename_i hx
     split at hq
     · rename_i x' hT
       obtain ⟨E',sz'⟩:=x'
       cases hq
       obtain ⟨v,e1,k1⟩:=rM hs hx
       have e2:=mL.1 k1.2
       subst e2
       exact eK vW fun ty=>Qy.cap (uG hT) e1
     cases hq
   cases hq
 · -- min
   split at hq
   · rename_i k m hx
     split at hq
     · rename_i k' m' hy
       rcases rK hq with ⟨h1,hr1⟩ | ⟨_,hr1⟩
       · have:=Dw h1
         subst this
         cases hr1
         obtain ⟨v,e1,k1⟩:=rM hs hx
         obtain ⟨u,e2,k2⟩:=rM hs hy
         rw [fY.1 k1.2] at e1
         rw [fY.1 k2.2] at e2
         have e3:(bif uO m m' then m else m')=if m'<m then m' else m:=by
          rw [sZ]
          by_cases h2:m≤m'
          · simp [h2,Int.not_lt.2 h2]
          simp [h2,Int.not_le.1 h2]
         rw [e3]
         exact eK vW fun ty=>Qy.min e1 e2
       cases hr1
     cases hq
   cases hq
 · -- max
   split at hq
   · rename_i k m hx
     split at hq
     · rename_i k' m' hy
       rcases rK hq with ⟨h1,hr1⟩ | ⟨_,hr1⟩
       · have:=Dw h1
         subst this
         cases hr1
         obtain ⟨v,e1,k1⟩:=rM hs hx
         obtain ⟨u,e2,k2⟩:=rM hs hy
         rw [fY.1 k1.2] at e1
         rw [fY.1 k2.2] at e2
         have e3:(bif uO m' m then m else m')=if m<m' then m' else m:=by
          rw [sZ]
          by_cases h2:m'≤m
          · simp [h2,Int.not_lt.2 h2]
          simp [h2,Int.not_le.1 h2]
         rw [e3]
         exact eK vW fun ty=>Qy.max e1 e2
       cases hr1
     cases hq
   cases hq
 · -- lookup
   rename_i T x i cc
   unfold SJ at hq
   split at hq
   · rename_i t hx
     obtain ⟨v1,e1,k1⟩:=rM hs hx
     have e1':=Jd k1
     subst e1'
     have hrd:FS E (.lookup T x i cc)=some t:=by show (match sU E x with | some (.mp t)=>some t | _=>none)=some t;rw [hx]
     split at hq
     · rename_i k hi
       obtain ⟨v2,e2,k2⟩:=rM hs hi
       split at hq
       · rename_i l st hb
         have hob:ob t=sP l:=hm t _ hrd hb
         split at hq
         · rename_i m hk
           rcases rK hq with ⟨h1,hr⟩ | ⟨_,hr⟩
           · cases hr
             obtain ⟨kt,hT⟩:=Ol h1
             have e3:=Gz hk k2
             subst e3
             rw [Gw uR]
             refine ⟨_,FR,fun w hw dst ty pos after g=>?_⟩
             have hbk:=hw t hrd
             rw [hob] at hbk
             simp only [execOp,(lookN a w).eval e1,(lookN a w).eval e2,bE,Bm hT hbk cc,aO,bJ]
           cases hr
         cases hq
       · rename_i l st hb
         have hob:ob t=sP l:=hm t _ hrd hb
         split at hq
         · rename_i m hk
           rcases rK hq with ⟨h1,hr⟩ | ⟨_,hr⟩
           · cases hr
             obtain ⟨kt,hT⟩:=Om h1
             have e3:=Ha hk k2
             subst e3
             rw [Gw Ok]
             refine ⟨_,FR,fun w hw dst ty pos after g=>?_⟩
             have hbk:=hw t hrd
             rw [hob] at hbk
             simp only [execOp,(lookN a w).eval e1,(lookN a w).eval e2,bE,Bm hT hbk cc,aO,bJ]
           cases hr
         cases hq
       cases hq
     cases hq
   cases hq
 cases hq
end
def rO:Nat:=1000000000
theorem Jh:rO=1000000000:=rfl
structure OldX (X:Nat→Prop) (ρ:Pl) (h:Tr CB) (nx:Nat) (w:World) (ρ':Pl) (h':Tr CB) (w':World):Prop where
 old:∀ t b,h'.get t=some b→Og b<nx→h.get t=some b∧w'.heap[(ρ t).1]?=w.heap[(ρ t).1]?
 fr:∀ p,p<w.heap.size→(∀ t b,h.get t=some b→(ρ t).1≠p)→¬X p→w'.heap[p]?=w.heap[p]?
 nw:∀ t b,h'.get t=some b→w.heap.size≤(ρ' t).1∨∃ t' b',h.get t'=some b'∧(ρ t').1=(ρ' t).1
 sz:w.heap.size≤w'.heap.size
abbrev Lf:=OldX (fun _=>False)
section
variable {ρ ρ':Pl} {Φ:Imm→Prop} {w0:Bas Φ} {w w' w'':World} {h h' h'':Tr CB} {nx nx':Nat}
theorem OldX.refl {X:Nat→Prop}:OldX X ρ h nx w ρ h w:=⟨fun t b hb _=>⟨hb,rfl⟩,fun _ _ _ _=>rfl,fun t b hb=>.inr ⟨t,b,hb,rfl⟩,aH _⟩
abbrev fR:=@OldX.refl
theorem Mem.lt (hm:Mem ρ w0 h nx w) {t:Nat} {b:CB} (ht:h.get t=some b):(ρ t).1<w.heap.size:=by
 obtain ⟨_,_,_,o,h1,_⟩:=hm.own t b ht
 exact (dG.1 h1).1
theorem Mem.klt (hm:Mem ρ w0 h nx w) {b:Nat} (hb:b∈w0.ks):b<w.heap.size:=(dG.1 (hm.kept b hb).2.1).1
theorem Fq {X:Nat→Prop} {ρ2:Pl} (hm:Mem ρ w0 h nx w) (k1:Lf ρ h nx w ρ' h' w') (k2:OldX X ρ' h' nx' w' ρ2 h'' w'') (hX:∀ p,X p→w.heap.size≤p) (hn:nx≤nx') (he:Ext nx ρ ρ'):Lf ρ h nx w ρ2 h'' w'':=by
 refine ⟨fun t b hb hs=>?_,fun p hp hu _=>?_,fun t b hb=>?_,aP k1.sz k2.sz⟩
 · obtain ⟨a1,a2⟩:=k2.old t b hb (bN hs hn)
   obtain ⟨b1,b2⟩:=k1.old t b a1 hs
   have e:=he t (hm.own t b b1).1
   rw [e] at a2
   exact ⟨b1,a2.trans b2⟩
 · refine (k2.fr p (bN hp k1.sz) (fun t b hb e=>?_) (fun hx=>jR _ (bN hp (hX p hx)))).trans (k1.fr p hp hu id)
   rcases k1.nw t b hb with h1 | ⟨t',b',h1,h2⟩
   · omega
   exact hu t' b' h1 (h2.trans e)
 rcases k2.nw t b hb with h1 | ⟨t',b',h1,h2⟩
 · exact .inl (aP k1.sz h1)
 rw [←h2];exact k1.nw t' b' h1
theorem OldX.trans {ρ2:Pl} (hm:Mem ρ w0 h nx w) (k1:Lf ρ h nx w ρ' h' w') (k2:Lf ρ' h' nx' w' ρ2 h'' w'') (hn:nx≤nx') (he:Ext nx ρ ρ'):Lf ρ h nx w ρ2 h'' w'':=Fq hm k1 k2 (fun _ h=>h.elim) hn he
theorem Mem.new (hm:Mem ρ w0 h nx w) (hf:nx<rO) {b:CB} {o:Obj} {s:Nat} (hst:Og b=nx) (hu:Upd (fun _=>False) w w') (hs:w'.heap.size=w.heap.size+1) (ho:w'.heap[w.heap.size]?=some o) (hb:DB nx ρ s b o) :
 ∃ ρ',Ext nx ρ ρ'∧ρ' nx=(w.heap.size,s)∧Mem ρ' w0 (h.set (some b) rO nx) (nx+1) w'∧Lf ρ h nx w ρ' (h.set (some b) rO nx) w':=by
 have hext:Ext nx ρ (fun t=>if t=nx then (w.heap.size,s) else ρ t):=fun t ht=>by simp [qR ht]
 have get:=fun j=>eN (some b) rO h nx j hf
 refine ⟨fun t=>if t=nx then (w.heap.size,s) else ρ t,hext,by simp,⟨hm.upd.trans hu,?_,?_,hm.imm,hm.nod,fun c hc=>?_⟩,?_⟩
 · intro t b' ht
   rw [get] at ht
   by_cases e:t=nx
   · subst e
     rw [aR rfl] at ht
     cases ht
     simp only [eO]
     exact ⟨by omega,by omega,hm.upd.size,o,ho,hb.up (cY _) hext⟩
   rw [aK e] at ht
   obtain ⟨h1,hs1,h2,o',h3,h4⟩:=hm.own t b' ht
   simp only [e,eP]
   refine ⟨by omega,by omega,h2,o',?_,h4.up (cY _) hext⟩
   rw [hu.same _ (hm.lt ht) id];exact h3
 · intro t t' b1 b2 h1 h2 he
   rw [get] at h1 h2
   by_cases e:t=nx <;> by_cases e':t'=nx
   · rw [e,e']
   · rw [aK e'] at h2
     have:=hm.lt h2
     simp only [e,e',eO,eP] at he
     omega
   · rw [aK e] at h1
     have:=hm.lt h1
     simp only [e,e',eO,eP] at he
     omega
   rw [aK e] at h1
   rw [aK e'] at h2
   simp only [e,e',eP] at he
   exact hm.one t t' b1 b2 h1 h2 he
 · obtain ⟨k1,k2,k3⟩:=hm.kept c hc
   have hl:=hm.klt hc
   refine ⟨k1,(hu.same _ hl id).trans k2,fun t b' ht=>?_⟩
   rw [get] at ht
   by_cases e:t=nx
   · simp only [e,eO];omega
   rw [aK e] at ht
   simp only [e,eP]
   exact k3 t b' ht
 refine ⟨fun t b' hb' hst'=>?_,fun p hp _ _=>hu.same _ hp id,fun t b' hb'=>?_,hu.size⟩
 · rw [get] at hb'
   by_cases e:t=nx
   · rw [aR e] at hb';cases hb';omega
   rw [aK e] at hb'
   exact ⟨hb',hu.same _ (hm.lt hb') id⟩
 rw [get] at hb'
 by_cases e:t=nx
 · simp only [e,eO];exact .inl (aH _)
 rw [aK e] at hb'
 simp only [e,eP];exact .inr ⟨t,b',hb',rfl⟩
theorem Mem.write (hm:Mem ρ w0 h nx w) (hf:nx≤rO) {t:Nat} {b b':CB} {o:Obj} (hst:Og b'=nx) (ht:h.get t=some b) (hu:Upd (·=(ρ t).1) w w') (ho:w'.heap[(ρ t).1]?=some o) (hb:DB nx ρ (ρ t).2 b' o) :
 Mem ρ w0 (h.set (some b') rO t) (nx+1) w'∧Lf ρ h nx w ρ (h.set (some b') rO t) w':=by
 obtain ⟨h1,hs1,h2,_⟩:=hm.own t b ht
 have get:=fun j=>eN (some b') rO h t j rG
 refine ⟨⟨⟨hu.os.trans hm.upd.os,hu.tape.trans hm.upd.tape,hu.output.trans hm.upd.output,aP hm.upd.size hu.size,fun k hk hx=>?_⟩,?_,?_,hm.imm,hm.nod,fun c hc=>?_⟩,?_⟩
 · exact (hu.same k (bN hk hm.upd.size) rG).trans (hm.upd.same k hk hx)
 · intro t' c hc
   rw [get] at hc
   by_cases e:t'=t
   · subst e
     rw [aR rfl] at hc
     cases hc
     exact ⟨by omega,by omega,h2,o,ho,hb.up (cY _) (dD _ _)⟩
   rw [aK e] at hc
   obtain ⟨g1,gs,g2,o',g3,g4⟩:=hm.own t' c hc
   refine ⟨by omega,by omega,g2,o',?_,g4.up (cY _) (dD _ _)⟩
   rw [hu.same _ (hm.lt hc) (fun e2=>e (hm.one t' t c b hc ht e2))];exact g3
 · intro t1 t2 b1 b2 e1 e2 he
   have f:∀ t' c,(h.set (some b') rO t).get t'=some c→∃ c',h.get t'=some c':=fun t' c hc=>by
    rw [get] at hc
    by_cases e:t'=t
    · subst e;exact ⟨b,ht⟩
    rw [aK e] at hc;exact ⟨c,hc⟩
   obtain ⟨c1,g1⟩:=f t1 b1 e1
   obtain ⟨c2,g2⟩:=f t2 b2 e2
   exact hm.one t1 t2 c1 c2 g1 g2 he
 · obtain ⟨k1,k2,k3⟩:=hm.kept c hc
   refine ⟨k1,(hu.same _ (hm.klt hc) (fun e=>k3 t b ht e.symm)).trans k2,fun t' b' ht'=>?_⟩
   rw [get] at ht'
   by_cases e:t'=t
   · subst e;exact k3 _ _ ht
   rw [aK e] at ht';exact k3 _ _ ht'
 refine ⟨fun t' c hc hs'=>?_,fun p hp hup _=>hu.same _ hp (fun e=>hup t b ht e.symm),fun t' c hc=>?_,hu.size⟩
 · rw [get] at hc
   by_cases e:t'=t
   · rw [aR e] at hc;cases hc;omega
   rw [aK e] at hc
   exact ⟨hc,hu.same _ (hm.lt hc) (fun e2=>e (hm.one t' t c b hc ht e2))⟩
 rw [get] at hc
 by_cases e:t'=t
 · exact .inr ⟨t,b,ht,by rw [e]⟩
 rw [aK e] at hc;exact .inr ⟨t',c,hc,rfl⟩
theorem Mem.kill (hm:Mem ρ w0 h nx w) (hf:nx≤rO) {t:Nat} (ht:t<nx):Mem ρ w0 (h.set none rO t) nx w∧Lf ρ h nx w ρ (h.set none rO t) w:=by
 have get:=fun j=>eN (none:Option CB) rO h t j rG
 have f:∀ t' c,(h.set none rO t).get t'=some c→h.get t'=some c:=fun t' c hc=>by
  rw [get] at hc
  by_cases e:t'=t
  · rw [aR e] at hc;cases hc
  rw [aK e] at hc;exact hc
 exact ⟨⟨hm.upd,fun t' c hc=>hm.own t' c (f t' c hc),fun t1 t2 b1 b2 e1 e2 he=>hm.one t1 t2 b1 b2 (f _ _ e1) (f _ _ e2) he,hm.imm,hm.nod,fun c hc=>⟨(hm.kept c hc).1,(hm.kept c hc).2.1,fun t' b' ht'=>(hm.kept c hc).2.2 t' b' (f _ _ ht')⟩⟩,⟨fun t' c hc _=>⟨f _ _ hc,rfl⟩,fun _ _ _ _=>rfl,fun t' c hc=>.inr ⟨t',c,f _ _ hc,rfl⟩,aH _⟩⟩
theorem Mem.drop (hm:Mem ρ w0 h nx w) (hf:nx≤rO) {t:Nat} {b:CB} (ht:h.get t=some b) (hu:Upd (·=(ρ t).1) w w'):Mem ρ w0 (h.set none rO t) nx w'∧Lf ρ h nx w ρ (h.set none rO t) w':=by
 obtain ⟨h1,hs1,h2,_⟩:=hm.own t b ht
 have get:=fun j=>eN (none:Option CB) rO h t j rG
 have f:∀ t' c,(h.set none rO t).get t'=some c→t'≠t∧h.get t'=some c:=fun t' c hc=>by
  rw [get] at hc
  by_cases e:t'=t
  · rw [aR e] at hc;cases hc
  rw [aK e] at hc;exact ⟨e,hc⟩
 have ne:∀ t' c,(h.set none rO t).get t'=some c→(ρ t').1≠(ρ t).1:=fun t' c hc e=>(f t' c hc).1 (hm.one t' t c b (f t' c hc).2 ht e)
 refine ⟨⟨⟨hu.os.trans hm.upd.os,hu.tape.trans hm.upd.tape,hu.output.trans hm.upd.output,aP hm.upd.size hu.size,fun k hk hx=>?_⟩,fun t' c hc=>?_,fun t1 t2 b1 b2 e1 e2 he=>hm.one t1 t2 b1 b2 (f _ _ e1).2 (f _ _ e2).2 he,hm.imm,hm.nod,fun c hc=>?_⟩,?_⟩
 · exact (hu.same k (bN hk hm.upd.size) rG).trans (hm.upd.same k hk hx)
 · obtain ⟨g1,gs,g2,o',g3,g4⟩:=hm.own t' c (f t' c hc).2
   exact ⟨g1,gs,g2,o',(hu.same _ (hm.lt (f t' c hc).2) (ne t' c hc)).trans g3,g4⟩
 · obtain ⟨k1,k2,k3⟩:=hm.kept c hc
   exact ⟨k1,(hu.same _ (hm.klt hc) (fun e=>k3 t b ht e.symm)).trans k2,fun t' b' ht'=>k3 t' b' (f _ _ ht').2⟩
 exact ⟨fun t' c hc _=>⟨(f t' c hc).2,hu.same _ (hm.lt (f t' c hc).2) (ne t' c hc)⟩,fun p hp hup _=>hu.same _ hp (fun e=>hup t b ht e.symm),fun t' c hc=>.inr ⟨t',c,(f _ _ hc).2,rfl⟩,hu.size⟩
theorem Mem.rename (hm:Mem ρ w0 h nx w) (hf:nx<rO) {t:Nat} {b b':CB} {o:Obj} (hst:Og b'=nx) (ht:h.get t=some b) (hu:Upd (·=(ρ t).1) w w') (ho:w'.heap[(ρ t).1]?=some o) (hb:DB nx ρ (ρ t).2 b' o) :
 ∃ ρ',Ext nx ρ ρ'∧ρ' nx=ρ t∧Mem ρ' w0 ((h.set none rO t).set (some b') rO nx) (nx+1) w'∧Lf ρ h nx w ρ' ((h.set none rO t).set (some b') rO nx) w':=by
 have htn:=(hm.own t b ht).1
 have h0:=(hm.own t b ht).2.2.1
 have hext:Ext nx ρ (fun u=>if u=nx then ρ t else ρ u):=fun u hu=>by simp [qR hu]
 have g1:=fun j=>eN (none:Option CB) rO h t j rG
 have get:=fun j=>eN (some b') rO (h.set none rO t) nx j hf
 have f:∀ u c,((h.set none rO t).set (some b') rO nx).get u=some c→(u=nx∧c=b')∨(u≠nx∧u≠t∧h.get u=some c):=fun u c hc=>by
  rw [get] at hc
  by_cases e:u=nx
  · rw [aR e] at hc;cases hc;exact .inl ⟨e,rfl⟩
  rw [aK e,g1] at hc
  by_cases e2:u=t
  · rw [aR e2] at hc;cases hc
  rw [aK e2] at hc;exact .inr ⟨e,e2,hc⟩
 refine ⟨_,hext,by simp,⟨⟨hu.os.trans hm.upd.os,hu.tape.trans hm.upd.tape,hu.output.trans hm.upd.output,aP hm.upd.size hu.size,fun k hk hx=>?_⟩,?_,?_,hm.imm,hm.nod,fun c hc=>?_⟩,?_⟩
 · exact (hu.same k (bN hk hm.upd.size) rG).trans (hm.upd.same k hk hx)
 · intro u c hc
   rcases f u c hc with ⟨rfl,rfl⟩ | ⟨e1,e2,h1⟩
   · simp only [eO]
     exact ⟨by omega,by omega,h0,o,ho,hb.up (cY _) hext⟩
   obtain ⟨k1,ks,k2,o',k3,k4⟩:=hm.own u c h1
   simp only [e1,eP]
   refine ⟨by omega,by omega,k2,o',?_,k4.up (cY _) hext⟩
   rw [hu.same _ (hm.lt h1) (fun e3=>e2 (hm.one u t c b h1 ht e3))];exact k3
 · intro u u' c c' hc hc' he
   rcases f u c hc with ⟨rfl,rfl⟩ | ⟨e1,e2,h1⟩ <;> rcases f u' c' hc' with ⟨rfl,rfl⟩ | ⟨e1',e2',h1'⟩
   · rfl
   · simp only [eO,e1',eP] at he
     exact absurd (hm.one t u' b c' ht h1' he) (fun e=>e2' e.symm)
   · simp only [eO,e1,eP] at he
     exact absurd (hm.one u t c b h1 ht he) e2
   simp only [e1,e1',eP] at he
   exact hm.one u u' c c' h1 h1' he
 · obtain ⟨k1,k2,k3⟩:=hm.kept c hc
   refine ⟨k1,(hu.same _ (hm.klt hc) (fun e=>k3 t b ht e.symm)).trans k2,fun t' c' ht'=>?_⟩
   rcases f t' c' ht' with ⟨rfl,rfl⟩ | ⟨e1,e2,h1⟩
   · simp only [eO];exact k3 _ _ ht
   simp only [e1,eP];exact k3 _ _ h1
 refine ⟨fun u c hc hs=>?_,fun p hp hup _=>hu.same _ hp (fun e=>hup t b ht e.symm),fun u c hc=>?_,hu.size⟩
 · rcases f u c hc with ⟨rfl,rfl⟩ | ⟨e1,e2,h1⟩
   · omega
   exact ⟨h1,hu.same _ (hm.lt h1) (fun e3=>e2 (hm.one u t c b h1 ht e3))⟩
 rcases f u c hc with ⟨rfl,rfl⟩ | ⟨e1,e2,h1⟩
 · simp only [eO];exact .inr ⟨t,b,ht,rfl⟩
 simp only [e1,eP];exact .inr ⟨u,c,h1,rfl⟩
end
section
variable {Φ:Imm→Prop} {ρ ρ':Pl} {w0:Bas Φ} {w w':World} {E E':Tr CV} {h h':Tr CB} {nx nx' n:Nat} {a a':Act}
theorem Mem.base {ks:List Nat} {W:World} {G:Imm} {ok:Φ G} {s s':Nat} (hm:Mem ρ ⟨W,ks,G,ok,s⟩ h nx w):Mem ρ ⟨W,ks,G,ok,s'⟩ h nx w:=⟨hm.upd,hm.own,hm.one,hm.imm,hm.nod,hm.kept⟩
theorem Mem.less {ks os:List Nat} {W:World} {G:Imm} {ok:Φ G} {s:Nat} (hm:Mem ρ ⟨W,os++ks,G,ok,s⟩ h nx w):Mem ρ ⟨W,ks,G,ok,s⟩ h nx w:=
 ⟨hm.upd,hm.own,hm.one,hm.imm,(oD.1 hm.nod).2.1,fun b hb=>hm.kept b (iN _ hb)⟩
theorem Rel.slots (hR:Rel ρ w0 n E h nx a w):Slots ρ E nx n a:=by obtain ⟨os,hR⟩:=hR;exact hR.slots
theorem Rel.mem (hR:Rel ρ w0 n E h nx a w):Mem ρ w0 h nx w:=by obtain ⟨os,hR⟩:=hR;exact hR.mem.less
theorem Rel.put (hR:Rel ρ w0 n E h nx a w) {d:Option Nat} {v:Value} (hs:Slots ρ E' nx n (a.put d v)):Rel ρ w0 n E' h nx (a.put d v) w:=by
 obtain ⟨os,hR⟩:=hR
 exact ⟨os,hs,(show (a.put d v).defers=a.defers by cases d <;> rfl).trans hR.defers,hR.mem,hR.mks,hR.ss⟩
theorem Mem.grow (hm:Mem ρ w0 h nx w) (hu:Upd (fun _=>False) w w'):Mem ρ w0 h nx w'∧Lf ρ h nx w ρ h w':=by
 refine ⟨⟨hm.upd.trans hu,fun t b ht=>?_,hm.one,hm.imm,hm.nod,fun b hb=>?_⟩,⟨fun t b hb _=>⟨hb,hu.same _ (hm.lt hb) id⟩,fun p hp _ _=>hu.same _ hp id,fun t b hb=>.inr ⟨t,b,hb,rfl⟩,hu.size⟩⟩
 · obtain ⟨h1,h2,h3,o,h4,h5⟩:=hm.own t b ht
   exact ⟨h1,h2,h3,o,(hu.same _ (hm.lt ht) id).trans h4,h5⟩
 obtain ⟨k1,k2,k3⟩:=hm.kept b hb
 exact ⟨k1,(hu.same _ (hm.klt hb) id).trans k2,k3⟩
theorem Mem.keep {ks:List Nat} {W:World} {G:Imm} {ok:Φ G} {s:Nat} (hm:Mem ρ ⟨W,ks,G,ok,s⟩ h nx w):Mem ρ ⟨W,w.heap.size :: ks,G,ok,s⟩ h nx (w.alloc (.deferred (some [])))∧Lf ρ h nx w ρ h (w.alloc (.deferred (some []))):=by
 obtain ⟨g1,g2⟩:=hm.grow (w':=w.alloc (.deferred (some []))) ((lZ _ w).alloc _)
 have hn:w.heap.size ∉ ks:=fun hb=>jR _ (hm.klt hb)
 refine ⟨⟨g1.upd,g1.own,g1.one,g1.imm,jQ.2 ⟨hn,hm.nod⟩,fun b hb=>?_⟩,g2⟩
 rcases dE.1 hb with rfl | hb
 · refine ⟨hm.upd.size,sK w _,fun t c ht=>?_⟩
   have:=hm.lt ht
   omega
 exact g1.kept b hb
theorem Mem.shut {b:Nat} {ks:List Nat} {W:World} {G:Imm} {ok:Φ G} {s:Nat} (hm:Mem ρ ⟨W,b :: ks,G,ok,s⟩ h nx w):Mem ρ ⟨W,ks,G,ok,s⟩ h nx (w.putObj b (.deferred none))∧OldX (·=b) ρ h nx w ρ h (w.putObj b (.deferred none)):=by
 obtain ⟨k1,k2,k3⟩:=hm.kept b (bL ..)
 have hu:=wZ w b (.deferred none)
 have hnd:=jQ.1 hm.nod
 refine ⟨⟨⟨hu.os.trans hm.upd.os,hu.tape.trans hm.upd.tape,hu.output.trans hm.upd.output,aP hm.upd.size hu.size,fun k hk hx=>?_⟩,fun t c ht=>?_,hm.one,hm.imm,hnd.2,fun c hc=>?_⟩,⟨fun t c hc _=>⟨hc,hu.same _ (hm.lt hc) (k3 t c hc)⟩,fun p hp _ hx=>hu.same _ hp hx,fun t c hc=>.inr ⟨t,c,hc,rfl⟩,hu.size⟩⟩
 · exact (hu.same k (bN hk hm.upd.size) (fun e=>by subst e;exact absurd k1 (by show ¬W.heap.size≤k;exact Nat.not_le.2 hk))).trans (hm.upd.same k hk hx)
 · obtain ⟨h1,h2,h3,o,h4,h5⟩:=hm.own t c ht
   exact ⟨h1,h2,h3,o,(hu.same _ (hm.lt ht) (k3 t c ht)).trans h4,h5⟩
 obtain ⟨q1,q2,q3⟩:=hm.kept c (bB _ hc)
 exact ⟨q1,(hu.same _ (hm.klt (bB _ hc)) (fun e=>hnd.1 (by rw [←e];exact hc))).trans q2,q3⟩
end
inductive Ro where
 | bad
 | val (v:CV) (h:Tr CB) (nx:Nat)
 | unit (h:Tr CB) (nx:Nat)
def Wd {Φ:Imm→Prop} (P:Program) (op:Op) (ρ:Pl) (w0:Bas Φ) (h:Tr CB) (nx:Nat) (a:Act) (w:World):Ro→Prop
 | .bad=>True
 | .val c h' nx'=>nx≤nx'∧∃ v w' ρ',Ext nx ρ ρ'∧Kn nx' ρ' c v∧Mem ρ' w0 h' nx' w'∧nx'≤rO∧Lf ρ h nx w ρ' h' w'∧∀ (d:Option Tmp) (ty:TypeId) (pos:String) (after:Array Edge) (g:Option (Nat×Bool)),(execOp a.eval ⟨d,op,ty,pos,after,g⟩).run P w=.ok (.value v) w'
 | .unit h' nx'=>nx≤nx'∧∃ w' ρ',Ext nx ρ ρ'∧Mem ρ' w0 h' nx' w'∧nx'≤rO∧Lf ρ h nx w ρ' h' w'∧∀ (ty:TypeId) (pos:String) (after:Array Edge) (g:Option (Nat×Bool)),(execOp a.eval ⟨none,op,ty,pos,after,g⟩).run P w=.ok .skip w'
section
variable {P:Program} {w:World}
theorem Df {t tx ty e:TypeId} {i:TypeInfo} (ht:P.underlying t=some (.slice e)) (hi:P.info? e=some i) {b off sLen sCap:Nat} {cur:Array Value} {bt:TypeId} (hb:w.heap[b]?=some (.cells cur bt (0,0))) {x:Value} {n:Nat} {news:List Value} (hs:Go.Src P i.size tx x n news w)
 (hroom:sLen+n≤sCap) (hfit:off+sLen*i.size+news.length≤cur.size) :
 (Builtin.append_ #[t,tx] ty #[.slice (some ⟨b,off,none⟩) sLen sCap,x]).run P w=.ok (.slice (some ⟨b,off,none⟩) (sLen+n) sCap) (w.setRow b (cur.toList.take (off+sLen*i.size)++news++cur.toList.drop (off+sLen*i.size+news.length)).toArray):=by
 have hst:=lW P b (off+sLen*i.size) bt news 0 cur w hb (by simpa using hfit) hs.one
 simp only [gU] at hst
 rcases hs.kind with ⟨e',hk⟩ | hk <;> simp [Builtin.append_,aS ht,aS hk,sizeOf,typeInfo,hi,hs.len,hroom,hs.cells,Addr.add_lit,hst]
theorem FT {t tx ty e:TypeId} {i:TypeInfo} (ht:P.underlying t=some (.slice e)) (hi:P.info? e=some i) {b off dLen dCap:Nat} {cur:Array Value} {bt:TypeId} (hb:w.heap[b]?=some (.cells cur bt (0,0))) {src:Addr} {sLen sCap k:Nat} {news:List Value}
 (hk:Nat.min sLen dLen=k) (hl:news.length=k*i.size) (hn:∀ j v,news[j]?=some v→w.cell? (src.add j)=some v) (h1:∀ v∈news,v.oneCell'=true) (hfit:off+news.length≤cur.size) :
 (Builtin.copy_ #[t,tx] ty #[.slice (some ⟨b,off,none⟩) dLen dCap,.slice (some src) sLen sCap]).run P w=.ok (.int .i64 (k:Int)) (w.setRow b (cur.toList.take off++news++cur.toList.drop (off+news.length)).toArray):=by
 have hst:=lW P b off bt news 0 cur w hb (by simpa using hfit) h1
 simp only [gU] at hst
 have hld:=lF (P:=P) w src news hn
 rw [hl] at hld
 simp [Builtin.copy_,aS ht,Builtin.lenOf,Builtin.firstCells,sizeOf,typeInfo,hi,hk,hld,hst,goInt]
theorem AG {t tx ty e:TypeId} {i:TypeInfo} (ht:P.underlying t=some (.slice e)) (hi:P.info? e=some i) {d a:Option Addr} {dLen dCap sLen sCap:Nat} (hk:Nat.min sLen dLen=0) :
 (Builtin.copy_ #[t,tx] ty #[.slice d dLen dCap,.slice a sLen sCap]).run P w=.ok (.int .i64 0) w:=by
 have hl:∀ (x:Addr),(loadCells x 0).run P w=.ok #[] w:=fun x=>by simpa using lF (P:=P) w x [] sI
 cases d <;> cases a <;> simp [Builtin.copy_,aS ht,Builtin.lenOf,Builtin.firstCells,sizeOf,typeInfo,hi,hk,storeCells,hl,goInt]
theorem Hc {zs:List Value} (h0:0<zs.length) (n:Nat):madeCells zs.toArray (n*zs.length)=(List.replicate n zs).flatten.toArray:=by
 apply qI
 apply fG
 intro q
 have hlen:(List.replicate n zs).flatten.length=n*zs.length:=sI
 by_cases hq:q<n*zs.length
 · have h6:q % zs.length<zs.length:=nR _ h0
   have h7:zs.toArray[q % zs.toArray.size]! = zs[q % zs.length]'h6:=by
    rw [qM zs.toArray _ (by simpa using h6)]
    simp
   simp only [madeCells,oU,Array.toList_range,cF,fD hq,eU,h7]
   symm
   have key:∀ (n q:Nat),q<n*zs.length→(List.replicate n zs).flatten[q]?=some (zs[q % zs.length]'(nR _ h0)):=by
    intro n
    induction n with
    | zero=>intro q h;simp at h
    | succ n ih =>
      intro q h
      rw [nF,List.flatten_cons]
      by_cases hz:q<zs.length
      · rw [aZ hz,aC hz]
        congr 1
        simp only [gD hz]
      have h2:zs.length≤q:=rG
      rw [cH h2,ih (q - zs.length) (by rw [Nat.succ_mul] at h;omega)]
      congr 1
      have h3:(q - zs.length) % zs.length=q % zs.length:=by rw [←Nat.mod_eq_sub_mod h2]
      simp only [h3]
   exact key n q hq
 rw [cM (by simp [madeCells];omega),cM (by show (List.replicate n zs).flatten.length≤q;omega)]
end
def FU (P:Program) (T:Nat):Option (Nat×Nat×Nat×CV):=match P.underlying T with
 | some (.slice E)=>match P.info? E with
   | some i=>match LA P E with
     | some z=>bif Nat.beq (sG z) i.size && Nat.ble 1 i.size then some (E,i.size,i.bytes,z) else none
     | none=>none
   | none=>none
 | _=>none
theorem Eo {P:Program} {T E sz by':Nat} {z:CV} (h:FU P T=some (E,sz,by',z)) (nx:Nat) (ρ:Pl) :
 P.underlying T=some (.slice E)∧∃ i v,P.info? E=some i∧i.zero=some v∧i.size=sz∧i.bytes=by'∧KL nx ρ z v.cells.toList∧v.cells.toList.length=sz∧0<sz:=by
 unfold FU at h
 split at h
 · rename_i E' hu
   split at h
   · rename_i i hi
     split at h
     · rename_i z' hz
       rcases rK h with ⟨h1,h⟩ | ⟨_,h⟩
       · cases h
         simp only [aB] at h1
         obtain ⟨i',v,hi',hv,kz⟩:=Jc hz nx ρ
         rw [hi] at hi'
         cases hi'
         have:=aD h1.1
         rw [sJ kz] at this
         exact ⟨hu,i,v,hi,hv,rfl,rfl,kz,this,bH h1.2⟩
       cases h
     cases h
   cases h
 cases h
def ND (P:Program) (E:Tr CV) (h:Tr CB) (sz:Nat) (tx:Nat) (x:Operand):Option (Nat×CV):=match sU E x with
 | some .nils=>match Mj P tx with | some _=>some (0,.nil) | none=>none
 | some (.sl t o n sz' _)=>bif Nat.beq sz sz' then (match Mj P tx with
   | some _=>(match h.get t with
     | some (.cells l _ _ _)=>bif Nat.beq (sG (sO l o (Nat.mul n sz))) (Nat.mul n sz) && Cw (sO l o (Nat.mul n sz)) then some (n,sO l o (Nat.mul n sz)) else none
     | _=>none)
   | none=>none) else none
 | some (.str s)=>bif Nat.beq sz 1 then (match P.underlying tx with | some .string=>some (sG s,s) | _=>none) else none
 | _=>none
def SK (P:Program) (E:Tr CV) (h:Tr CB) (nx:Nat) (T tx:Nat) (s x:Operand):Ro:=match FU P T with
 | some (e,sz,by',_)=>match ND P E h sz tx x with
   | some (m,news)=>match sU E s with
     | some .nils=>bif Nat.beq m 0 then .bad else
      bif Nat.ble (Nat.mul m by') 140737488355328 && (Nat.ble m 4611686018427387904 && Nat.ble (Nat.succ nx) rO) then .val (.sl nx 0 m sz none) (h.set (some (.cells (Kz news) e true nx)) rO nx) (Nat.succ nx) else .bad
     | some (.sl t o n sz' c)=>bif not (Nat.beq sz sz') then .bad else bif Nat.beq m 0 then .val (.sl t o n sz c) h nx else
       (match h.get t with
       | some (.cells l bt op _)=>bif not (Nat.beq bt e) then .bad else
         (match c with
         | some c=>bif Nat.ble (Nat.add n m) c then
          (bif Nat.ble (Nat.add o (Nat.mul (Nat.add n m) sz)) l.n && Nat.ble (Nat.succ nx) rO then .val (.sl t o (Nat.add n m) sz (some c)) (h.set (some (.cells (Ky (Nat.add o (Nat.mul n sz)) news l) bt op nx)) rO t) (Nat.succ nx) else .bad)
           else
            (bif Nat.ble (Nat.mul (Nat.add n m) by') 140737488355328 && (Nat.ble (Nat.add n m) 4611686018427387904 && (Nat.ble (Nat.succ nx) rO && Nat.beq (sG (sO l o (Nat.mul n sz))) (Nat.mul n sz))) then
             .val (.sl nx 0 (Nat.add n m) sz none) (h.set (some (.cells (Kz (yA (sO l o (Nat.mul n sz)) news)) e true nx)) rO nx) (Nat.succ nx) else .bad)
         | none=>bif Nat.ble (Nat.add o (Nat.mul (Nat.add n m) sz)) l.n && Nat.ble (Nat.succ nx) rO then .val (.sl t o (Nat.add n m) sz none) (h.set (some (.cells (Ky (Nat.add o (Nat.mul n sz)) news l) bt op nx)) rO t) (Nat.succ nx)
           else
            bif (Nat.beq o 0 && Nat.beq (Nat.mul n sz) l.n) && (Nat.ble (Nat.mul (Nat.add n m) by') 140737488355328 && (Nat.ble (Nat.add n m) 4611686018427387904 && Nat.ble (Nat.succ nx) rO)) then
             .val (.sl nx 0 (Nat.add n m) sz none) ((h.set none rO t).set (some (.cells (MR l news) e true nx)) rO nx) (Nat.succ nx) else .bad)
       | _=>.bad)
     | _=>.bad
   | none=>.bad
 | none=>.bad
def wv0 (P:Program) (E:Tr CV) (h:Tr CB) (nx:Nat) (T:TypeId):Ro:=match LA P T with
 | some z=>bif Nat.ble (Nat.succ nx) rO then .val (.ptr nx 0) (h.set (some (.cells (Kz z) T false nx)) rO nx) (Nat.succ nx) else .bad
 | none=>.bad
def wv1 (P:Program) (E:Tr CV) (h:Tr CB) (nx:Nat) (T:TypeId) (x:Operand):Ro:=match sU E x with
 | some c=>match xU c with
   | some l=>bif Nat.ble (Nat.succ nx) rO then .val (.ptr nx 0) (h.set (some (.cells (Kz l) T false nx)) rO nx) (Nat.succ nx) else .bad
   | none=>.bad
 | none=>.bad
def wv2 (P:Program) (E:Tr CV) (h:Tr CB) (nx:Nat) (T:TypeId) (x:Operand) (y:Operand):Ro:=match sU E x with
 | some (.ptr t o)=>match sU E y with
   | some c=>match xU c with
     | some m=>match h.get t with
       | some (.cells l bt op _)=>match AY P T with
         | some k=>bif Nat.beq (sG m) k && (Cw m && (Nat.ble (Nat.add o k) l.n && Nat.ble (Nat.succ nx) rO)) then .unit (h.set (some (.cells (Ky o m l) bt op nx)) rO t) (Nat.succ nx) else .bad
         | none=>.bad
       | _=>.bad
     | none=>.bad
   | none=>.bad
 | _=>.bad
def wv3 (P:Program) (E:Tr CV) (h:Tr CB) (nx:Nat) (T:TypeId) (n:Nat) (parts:List (Nat×Operand)):Ro:=match FU P T with
 | some (e,sz,_,z)=>bif Nat.ble 1 n && (Nat.ble (Nat.mul n sz) 16777216 && Nat.ble (Nat.succ nx) rO) then
  (match Dc E (tR n sz) (Nat.mul n sz) parts (Ua z n) with
  | some l=>.val (.sl nx 0 n sz (some n)) (h.set (some (.cells (Kz l) e false nx)) rO nx) (Nat.succ nx)
  | none=>.bad) else .bad
 | none=>.bad
def wv4 (P:Program) (E:Tr CV) (h:Tr CB) (nx:Nat) (T:TypeId) (x:Operand) (y:Operand):Ro:=match FU P T with
 | some (e,sz,by',z)=>match sU E x with
   | some (.int _ n)=>match sU E y with
     | some (.int _ c)=>bif uO 0 n && (uO n c && (Nat.ble (Nat.mul by' c.toNat) 281474976710656 && (Nat.ble c.toNat 4611686018427387904 && Nat.ble (Nat.succ nx) rO))) then
      .val (.sl nx 0 n.toNat sz (some c.toNat)) (h.set (some (.cells (Kz (Ua z c.toNat)) e false nx)) rO nx) (Nat.succ nx) else .bad
     | _=>.bad
   | _=>.bad
 | none=>.bad
def wv6 (P:Program) (E:Tr CV) (h:Tr CB) (nx:Nat) (d:Operand) (x:Operand) (T:TypeId):Ro:=match FU P T with
 | some (_,sz,_,_)=>match sU E d with
   | some (.sl t o n sz' _)=>match sU E x with
     | some (.sl t2 o2 n2 sz2 _)=>bif Nat.beq sz sz' && Nat.beq sz sz2 then
      (match h.get t with
      | some (.cells l bt op _)=>(match h.get t2 with
        | some (.cells l2 _ _ _) =>
          bif Nat.beq (sG (sO l2 o2 (Nat.mul (Nat.min n2 n) sz))) (Nat.mul (Nat.min n2 n) sz) && (Cw (sO l2 o2 (Nat.mul (Nat.min n2 n) sz)) && (Nat.ble (Nat.add o (Nat.mul (Nat.min n2 n) sz)) l.n && Nat.ble (Nat.succ nx) rO)) then
           .val (.int .i64 (Nat.min n2 n)) (h.set (some (.cells (Ky o (sO l2 o2 (Nat.mul (Nat.min n2 n) sz)) l) bt op nx)) rO t) (Nat.succ nx) else .bad
        | _=>.bad)
      | _=>.bad) else .bad
     | some .nils=>.val (.int .i64 0) h nx
     | _=>.bad
   | _=>.bad
 | none=>.bad
def wv (P:Program) (E:Tr CV) (h:Tr CB) (nx:Nat):Op→Ro
 | .alloc T=>wv0 P E h nx T
 | .box T x=>wv1 P E h nx T x
 | .store T x y=>wv2 P E h nx T x y
 | .buildSlice T n ⟨parts⟩=>wv3 P E h nx T n parts
 | .makeSlice T x y=>wv4 P E h nx T x y
 | .call ⟨.builtin .append,⟨[s,x]⟩,⟨[T,tx]⟩⟩=>SK P E h nx T tx s x
 | .call ⟨.builtin .copy,⟨[d,x]⟩,⟨[T,_]⟩⟩=>wv6 P E h nx d x T
 | _=>.bad
section
variable {P:Program} {nx n:Nat} {ρ:Pl} {Φ:Imm→Prop} {w0:Bas Φ} {w:World} {E:Tr CV} {h:Tr CB} {a:Act}
theorem tH {x:Operand} {v:Value} (hx:(eA a).ev x=some v):a.eval x=v:=(lookN a default).eval hx
theorem Wd.new {op:Op} {c:CV} {b:CB} {o:Obj} {s:Nat} (hm:Mem ρ w0 h nx w) (hf:Nat.ble (Nat.succ nx) rO=true) (hst:Og b=nx) {w':World} {v:Value} (hu:Upd (fun _=>False) w w') (hsz:w'.heap.size=w.heap.size+1) (ho:w'.heap[w.heap.size]?=some o) (hb:DB nx ρ s b o)
 (hk:∀ ρ',ρ' nx=(w.heap.size,s)→DV ρ' c v) (hbd:Bd (nx+1) c) (hr:∀ (d:Option Tmp) (ty:TypeId) (pos:String) (after:Array Edge) (g:Option (Nat×Bool)),(execOp a.eval ⟨d,op,ty,pos,after,g⟩).run P w=.ok (.value v) w') :
 Wd P op ρ w0 h nx a w (.val c (h.set (some b) rO nx) (Nat.succ nx)):=by
 have hf':=bH hf
 obtain ⟨ρ',h1,h2,h3,h4⟩:=hm.new (w':=w') hf' hst hu hsz ho hb
 exact ⟨cY _,v,w',ρ',h1,⟨hbd,hk ρ' h2⟩,h3,hf',h4,hr⟩
abbrev oM:=@Wd.new
theorem tD (w:World) (o:Obj):Upd (fun _=>False) w (w.alloc o):=(lZ _ w).alloc o
theorem tI (w:World) (o:Obj):(w.alloc o).heap.size=w.heap.size+1:=by show (w.heap.push o).size=_;simp
theorem uT {l:CV} {vs:List Value} (hk:KL nx ρ l vs) (ty:Nat) {st:Nat}:DB nx ρ vs.length (.cells (Kz l) ty false st) (.cells vs.toArray ty (0,0)):=⟨vs,[],Oj hk,by simp,by simp,fun _=>rfl⟩
theorem Ui {t p:Nat} {l:Rw} {m:CV} {bt:Nat} {op:Bool} {st:Nat} {news:List Value} (hm:Mem ρ w0 h nx w) (hfit:nx≤rO) (ht:h.get t=some (.cells l bt op st)) (hn:KL nx ρ m news) (hp:p+news.length≤l.n) :
 ∃ cur:Array Value,w.heap[(ρ t).1]?=some (.cells cur bt (0,0))∧p+news.length≤cur.size∧cur.size=(ρ t).2∧∀ w',Upd (·=(ρ t).1) w w'→w'.heap[(ρ t).1]?=some (.cells (cur.toList.take p++news++cur.toList.drop (p+news.length)).toArray bt (0,0))→
  Mem ρ w0 (h.set (some (.cells (Ky p m l) bt op nx)) rO t) (nx+1) w'∧Lf ρ h nx w ρ (h.set (some (.cells (Ky p m l) bt op nx)) rO t) w':=by
 obtain ⟨h1,hs1,h2,o,h3,vs,junk,k1,rfl,k3,k4⟩:=hm.own t _ ht
 rw [Cz k1] at hp
 refine ⟨_,h3,by simp;omega,by simpa using k3,fun w' hu ho=>hm.write hfit rfl ht hu ho ?_⟩
 refine ⟨vs.take p++news++vs.drop (p+news.length),junk,?_,?_,?_,k4⟩
 · exact JQ k1 hn hp
 · simp only [fA (show p≤vs.length by omega),eM hp,dJ]
 simp only [aI,bC,dM];omega
theorem NE {m l:CV} {p k:Nat} (h:p+sG m≤sG l):sG (yA (zS p l) (yA m (zR (p+sG m) l)))=sG l:=by
 have t:∀ (k:Nat) (x:CV),sG (zS k x)=min k (sG x):=by
  intro k
  induction k with
  | zero=>intro x;show 0=_;omega
  | succ k ih=>intro x;cases x with
    | cons a b=>show Nat.succ (sG (zS k b))=min (k+1) (Nat.succ (sG b));rw [ih];omega
    | _=>show 0=min (k+1) 0;omega
 have d:∀ (k:Nat) (x:CV),sG (zR k x)=sG x - k:=by
  intro k
  induction k with
  | zero=>intro x;rfl
  | succ k ih=>intro x;cases x with
    | cons a b=>show sG (zR k b)=Nat.succ (sG b) - (k+1);rw [ih];omega
    | _=>show 0=0 - (k+1);omega
 have ap:∀ x y:CV,sG (yA x y)=sG x+sG y:=by
  intro x y
  induction x with
  | cons a b _ ih=>show Nat.succ (sG (yA b y))=Nat.succ (sG b)+sG y;rw [ih];omega
  | _=>show sG y=0+sG y;omega
 rw [ap,ap,t,d];omega
theorem Mm {pl:List (Nat×Nat)} {N:Nat}:∀ {parts:List (Nat×Operand)} {l r:CV},Dc E pl N parts l=some r→N≤sG l→sG r=sG l:=by
 intro parts
 induction parts with
 | nil=>intro l r h _;cases h;rfl
 | cons p parts ih =>
   intro l r h hN
   have h':(match Br pl p.1 with
    | some (off,size)=>(match sU E p.2 with
      | some c=>(match xU c with
        | some m=>bif Nat.beq (sG m) size && Nat.ble (off+size) N then Dc E pl N parts (yA (zS off l) (yA m (zR (off+size) l))) else none
        | none=>none)
      | none=>none)
    | none=>none)=some r:=h
   split at h'
   · rename_i off size hp0
     split at h'
     · split at h'
       · rename_i m hm0
         rcases rK h' with ⟨h1,h2⟩ | ⟨_,h2⟩
         · simp only [aB] at h1
           have e1:=aD h1.1
           have e2:=bH h1.2
           subst e1
           have hp:=NE (k:=0) (m:=m) (l:=l) (p:=off) rG
           rw [ih h2 (by rw [hp];exact hN),hp]
         cases h2
       cases h'
     cases h'
   cases h'
theorem FV {T:TypeId} {r:Ro} (hs:Slots ρ E nx n a) (hm:Mem ρ w0 h nx w) (hr:wv P E h nx (.alloc T)=r):Wd P (.alloc T) ρ w0 h nx a w r:=by
 subst hr
 show Wd _ _ _ _ _ _ _ _ (match LA P T with | some z=>bif Nat.ble (Nat.succ nx) rO then .val (.ptr nx 0) (h.set (some (.cells (Kz z) T false nx)) rO nx) (Nat.succ nx) else .bad | none=>.bad)
 split
 · rename_i z hz
   cases hf:Nat.ble (Nat.succ nx) rO with
   | false=>trivial
   | true =>
     obtain ⟨i,v,hi,hv,kz⟩:=Jc hz nx ρ
     refine oM (s:=v.cells.toList.length) (o:=.cells v.cells.toList.toArray T (0,0)) (w':=w.alloc (.cells v.cells.toList.toArray T (0,0))) (v:=.pointer (some ⟨w.heap.size,0,none⟩)) hm hf rfl (tD _ _) (tI _ _) (sK _ _) (uT kz T) (fun ρ' hρ=>?_) (cK nx) fun d ty pos after g=>?_
     · show _=Value.pointer (some ⟨(ρ' nx).1,0,none⟩)
       rw [hρ]
     simp [execOp,Instr.alloc,newVar,newRow,zeroValue,typeInfo,hi,hv]
 trivial
theorem NF {T:TypeId} {x:Operand} {r:Ro} (hs:Slots ρ E nx n a) (hm:Mem ρ w0 h nx w) (hr:wv P E h nx (.box T x)=r):Wd P (.box T x) ρ w0 h nx a w r:=by
 subst hr
 show Wd _ _ _ _ _ _ _ _ (match sU E x with
  | some c=>match xU c with
    | some l=>bif Nat.ble (Nat.succ nx) rO then .val (.ptr nx 0) (h.set (some (.cells (Kz l) T false nx)) rO nx) (Nat.succ nx) else .bad
    | none=>.bad
  | none=>.bad)
 split
 · rename_i c hc
   split
   · rename_i l hl
     cases hf:Nat.ble (Nat.succ nx) rO with
     | false=>trivial
     | true =>
       obtain ⟨v,e1,k1⟩:=rM hs hc
       have kz:=yB k1 hl
       refine oM (s:=v.cells.toList.length) (o:=.cells v.cells.toList.toArray T (0,0)) (w':=w.alloc (.cells v.cells.toList.toArray T (0,0))) (v:=.pointer (some ⟨w.heap.size,0,none⟩)) hm hf rfl (tD _ _) (tI _ _) (sK _ _) (uT kz T) (fun ρ' hρ=>?_) (cK nx) fun d ty pos after g=>?_
       · show _=Value.pointer (some ⟨(ρ' nx).1,0,none⟩)
         rw [hρ]
       simp [execOp,Instr.box,newVar,newRow,tH e1]
   trivial
 trivial
theorem FW {T:TypeId} {x y:Operand} {r:Ro} (hs:Slots ρ E nx n a) (hm:Mem ρ w0 h nx w) (hfit:nx≤rO) (hr:wv P E h nx (.store T x y)=r):Wd P (.store T x y) ρ w0 h nx a w r:=by
 subst hr
 show Wd _ _ _ _ _ _ _ _ (match sU E x with
  | some (.ptr t o)=>match sU E y with
    | some c=>match xU c with
      | some m=>match h.get t with
        | some (.cells l bt op _)=>match AY P T with
          | some k=>bif Nat.beq (sG m) k && (Cw m && (Nat.ble (Nat.add o k) l.n && Nat.ble (Nat.succ nx) rO)) then .unit (h.set (some (.cells (Ky o m l) bt op nx)) rO t) (Nat.succ nx) else .bad
          | none=>.bad
        | _=>.bad
      | none=>.bad
    | none=>.bad
  | _=>.bad)
 split
 · rename_i t o hx
   split
   · rename_i c hc
     split
     · rename_i m hmc
       split
       · rename_i l bt op st ht
         split
         · rename_i k hk
           cases hb:Nat.beq (sG m) k && (Cw m && (Nat.ble (Nat.add o k) l.n && Nat.ble (Nat.succ nx) rO)) with
           | false=>trivial
           | true =>
             simp only [aB] at hb
             obtain ⟨v,e1,k1⟩:=rM hs hx
             have e2:=lK.1 k1.2
             subst e2
             obtain ⟨u,e3,k3⟩:=rM hs hc
             have km:=yB k3 hmc
             have hlen:u.cells.toList.length=k:=by rw [←sJ km];exact aD hb.1
             have hle:o+u.cells.toList.length≤l.n:=by rw [hlen];exact bH hb.2.2.1
             obtain ⟨cur,g1,g2,g3,g4⟩:=Ui hm hfit ht km hle
             have g1':w.heap[(ρ t).1]?=some (.cells cur.toList.toArray bt (0,0)):=by rw [g1]
             have hrun:=xN (P:=P) (T:=T) (off:=o) (cs:=cur.toList) (vs:=u.cells.toList) (v:=u) (by rw [hlen];exact Bl hk) sI (Iy km hb.2.1) g1' (by simpa using g2)
             have g5:=g4 (w.setRow (ρ t).1 (cur.toList.take o++u.cells.toList++cur.toList.drop (o+u.cells.toList.length)).toArray) (tM w (ρ t).1 _) BB
             refine ⟨cY _,w.setRow (ρ t).1 (cur.toList.take o++u.cells.toList++cur.toList.drop (o+u.cells.toList.length)).toArray,ρ,dD _ _,g5.1,bH hb.2.2.2,g5.2,fun ty pos after g=>?_⟩
             simp [execOp,tH e1,tH e3,hrun]
         trivial
       trivial
     trivial
   trivial
 trivial
theorem Lg {T N:Nat} {parts:List (Nat×Operand)} {r:Ro} (hs:Slots ρ E nx n a) (hm:Mem ρ w0 h nx w) (hr:wv P E h nx (.buildSlice T N ⟨parts⟩)=r):Wd P (.buildSlice T N ⟨parts⟩) ρ w0 h nx a w r:=by
 subst hr
 show Wd _ _ _ _ _ _ _ _ (match FU P T with
  | some (e,sz,_,z)=>bif Nat.ble 1 N && (Nat.ble (Nat.mul N sz) 16777216 && Nat.ble (Nat.succ nx) rO) then
   (match Dc E (tR N sz) (Nat.mul N sz) parts (Ua z N) with
   | some l=>.val (.sl nx 0 N sz (some N)) (h.set (some (.cells (Kz l) e false nx)) rO nx) (Nat.succ nx)
   | none=>.bad) else .bad
  | none=>.bad)
 split
 · rename_i e sz by' z hz
   cases hb:Nat.ble 1 N && (Nat.ble (Nat.mul N sz) 16777216 && Nat.ble (Nat.succ nx) rO) with
   | false=>trivial
   | true =>
     simp only [fT]
     split
     · rename_i l hl
       simp only [aB] at hb
       obtain ⟨hu,i,zv,hi,hzv,hsz,hby,kz,hzl,h0⟩:=Eo hz nx ρ
       have kr:=Gs kz N
       obtain ⟨vs,e1,o1,k1⟩:=Dd hs kr hl
       have hN:=bH hb.1
       have hNs:N*sz≤16777216:=bH hb.2.1
       have hpos:0<N*sz:=Nat.mul_pos hN h0
       have hlen:(List.replicate N zv.cells.toList).flatten.length=N*sz:=by simp [←hzl]
       have hf:=By (fun i=>some (i*sz,sz)) (tR N sz) (fun i x h=>by
        simp only [tR,cF,fQ] at h
        obtain ⟨j,hj,rfl⟩:=h
        obtain ⟨hlt,hj⟩:=aV.1 hj
        simp at hj;subst hj;rfl) vs (List.replicate N zv.cells.toList).flatten (N*sz) hlen o1
       have hmade:((Array.range (N*i.size)).map (zv.cells[· % zv.cells.size]!))=(List.replicate N zv.cells.toList).flatten.toArray:=by
        have:=Hc (zs:=zv.cells.toList) rG N
        rw [hzl] at this
        simpa [madeCells,hsz] using this
       have hrun:=run_buildSlice (P:=P) w T e N vs.toArray (wL (tR N sz) (List.replicate N zv.cells.toList).flatten vs).toArray i zv hu hi hzv Pf Pf (by rw [hmade,hsz];exact hf)
       have hmm:(parts.toArray.map fun (i,x)=>(i,a.eval x))=vs.toArray:=by rw [←(lookN a w).parts e1];simp
       have hlenF:(wL (tR N sz) (List.replicate N zv.cells.toList).flatten vs).length=N*sz:=by
        rw [←sJ k1,Mm hl (by rw [sJ kr,hlen];exact aH _),sJ kr,hlen]
       refine oM (s:=(wL (tR N sz) (List.replicate N zv.cells.toList).flatten vs).length) (o:=.cells (wL (tR N sz) (List.replicate N zv.cells.toList).flatten vs).toArray e (0,0)) (v:=.slice (some ⟨w.heap.size,0,none⟩) N N) hm hb.2.2 rfl (tD _ _) (tI _ _) (sK _ _) (uT k1 e) (fun ρ' hρ=>?_) (cK nx) fun d ty pos after g=>?_
       · refine jG.2 ⟨by rw [hρ],by rw [hρ,hlenF];omega,aH _,?_⟩
         have:=Nat.le_mul_of_pos_right N h0
         simp only [maxLen];omega
       simp only [execOp,hmm,bE,hrun,aO,bJ]
     trivial
 trivial
end
section
variable {P:Program} {nx n:Nat} {ρ:Pl} {Φ:Imm→Prop} {w0:Bas Φ} {w:World} {E:Tr CV} {h:Tr CB} {a:Act}
theorem On {T:TypeId} {x y:Operand} {r:Ro} (hs:Slots ρ E nx n a) (hm:Mem ρ w0 h nx w) (hr:wv P E h nx (.makeSlice T x y)=r):Wd P (.makeSlice T x y) ρ w0 h nx a w r:=by
 subst hr
 show Wd _ _ _ _ _ _ _ _ (match FU P T with
  | some (e,sz,by',z)=>match sU E x with
    | some (.int _ n)=>match sU E y with
      | some (.int _ c)=>bif uO 0 n && (uO n c && (Nat.ble (Nat.mul by' c.toNat) 281474976710656 && (Nat.ble c.toNat 4611686018427387904 && Nat.ble (Nat.succ nx) rO))) then
       .val (.sl nx 0 n.toNat sz (some c.toNat)) (h.set (some (.cells (Kz (Ua z c.toNat)) e false nx)) rO nx) (Nat.succ nx) else .bad
      | _=>.bad
    | _=>.bad
  | none=>.bad)
 split
 · rename_i e sz by' z hz
   split
   · rename_i k N hx
     split
     · rename_i k' C hy
       cases hb:uO 0 N && (uO N C && (Nat.ble (Nat.mul by' C.toNat) 281474976710656 && (Nat.ble C.toNat 4611686018427387904 && Nat.ble (Nat.succ nx) rO))) with
       | false=>trivial
       | true =>
         simp only [aB,sZ,aQ] at hb
         obtain ⟨hb1,hb2,hb3,hb4,hb5⟩:=hb
         have hb3:by'*C.toNat≤281474976710656:=bH hb3
         have hb4:=bH hb4
         obtain ⟨hu,i,zv,hi,hzv,hsz,hby,kz,hzl,h0⟩:=Eo hz nx ρ
         obtain ⟨v1,e1,k1⟩:=rM hs hx
         obtain ⟨v2,e2,k2⟩:=rM hs hy
         rw [fY.1 k1.2] at e1
         rw [fY.1 k2.2] at e2
         have hbc:(i.bytes:Int)*C≤281474976710656:=by
          have:((by'*C.toNat:Nat):Int)=(i.bytes:Int)*C:=by rw [eW,cL rG,hby]
          omega
         have hrun:=run_make (P:=P) w T e i zv hu hi hzv k k' N C hb1 hb2 hbc rG
         have hmade:madeCells zv.cells (C.toNat*i.size)=(List.replicate C.toNat zv.cells.toList).flatten.toArray:=by
          have:=Hc (zs:=zv.cells.toList) rG C.toNat
          rw [hzl] at this
          rw [hsz,←this]
         rw [hmade] at hrun
         have hlen:(List.replicate C.toNat zv.cells.toList).flatten.length=C.toNat*sz:=by simp [←hzl]
         refine oM (s:=C.toNat*sz) (o:=.cells (List.replicate C.toNat zv.cells.toList).flatten.toArray e (0,0)) (v:=.slice (some ⟨w.heap.size,0,none⟩) N.toNat C.toNat) hm hb5 rfl (tD _ _) (tI _ _) (sK _ _) (by rw [←hlen];exact uT (Gs kz C.toNat) e) (fun ρ' hρ=>?_) (cK nx) fun d ty pos after g=>?_
         · refine jG.2 ⟨by rw [hρ],by rw [hρ];show 0+C.toNat*sz≤C.toNat*sz;omega,by omega,?_⟩
           simp only [maxLen];omega
         simp only [execOp,tH e1,tH e2,bE,hrun,aO,bJ]
     trivial
   trivial
 trivial
theorem Hd {t:Nat} {vs:List Value} {ty:TypeId} (hb:w.heap[t]?=some (.cells vs.toArray ty (0,0))) {o:Nat} {m:Nat} {news:List Value} (hn:news=(vs.drop o).take m):∀ j v,news[j]?=some v→w.cell? ((⟨t,o,none⟩:Addr).add j)=some v:=fun j v hj=>by
 rw [add_lit,cell_of_block hb]
 subst hn
 rw [gP] at hj
 split at hj
 · rw [eR] at hj;exact hj
 cases hj
theorem KB {sz tx:Nat} {x:Operand} {m:Nat} {l:CV} (hs:Slots ρ E nx n a) (hm:Mem ρ w0 h nx w) (hq:ND P E h sz tx x=some (m,l)):∃ xv news,(eA a).ev x=some xv∧KL nx ρ l news∧news.length=m*sz∧Go.Src P sz tx xv m news w:=by
 unfold ND at hq
 split at hq
 · rename_i hx
   split at hq
   · rename_i q hT
     obtain ⟨e',sz'⟩:=q
     cases hq
     obtain ⟨v,e1,k1⟩:=rM hs hx
     have e2:=mL.1 k1.2
     subst e2
     exact ⟨_,[],e1,mV,by simp,Go.Src.ofNil w (uG hT).1 0⟩
   cases hq
 · rename_i t o N sz' cc hx
   rcases rK hq with ⟨h1,hr1⟩ | ⟨_,hr1⟩
   · have:=aD h1
     subst this
     split at hr1
     · rename_i q hT
       obtain ⟨e',sz'⟩:=q
       split at hr1
       · rename_i lb bt op st ht
         rcases rK hr1 with ⟨h2,hr2⟩ | ⟨_,hr2⟩
         · cases hr2
           simp only [aB] at h2
           obtain ⟨v,e1,k1⟩:=rM hs hx
           obtain ⟨c',rfl⟩:=zU k1
           obtain ⟨_,_,_,ob,g3,vs,junk,kl,rfl,_,_⟩:=hm.own t _ ht
           have kk:=vV (k:=m*sz) kl (aD h2.1)
           have hlen:((vs.drop o).take (m*sz)).length=m*sz:=by rw [←sJ kk];exact aD h2.1
           have hone:=Iy kk h2.2
           have hdrop:((vs++junk).drop o).take (m*sz)=(vs.drop o).take (m*sz):=by
            rw [bC,dM] at hlen
            by_cases h0:m*sz=0
            · rw [h0];simp
            rw [eM rG,fA Ux]
           exact ⟨_,(vs.drop o).take (m*sz),e1,kk,hlen,Go.Src.ofSlice w (uG hT).1 _ m c' _ hlen (Hd g3 hdrop.symm) (fun u hu=>eZ.1 hone u hu)⟩
         cases hr2
       cases hr1
     cases hr1
   cases hr1
 · rename_i s hx
   rcases rK hq with ⟨h1,hr1⟩ | ⟨_,hr1⟩
   · have:=aD h1
     subst this
     split at hr1
     · rename_i hT
       cases hr1
       obtain ⟨v,e1,k1⟩:=rM hs hx
       obtain ⟨bs,rfl,k2⟩:=De k1
       have hlen:=sJ k2
       have hsz:(ByteArray.mk bs.toArray).size=sG l:=by
        rw [hlen,bS];show bs.toArray.size=_;simp
       have hbc:byteCells (ByteArray.mk bs.toArray)=bs.map fun b=>Value.int .u8 b.toNat:=by unfold byteCells;simp
       refine ⟨_,_,e1,k2,by rw [←hlen];omega,?_⟩
       have:=Go.Src.ofString w hT (ByteArray.mk bs.toArray)
       rw [hsz,hbc] at this
       exact this
     cases hr1
   cases hr1
 cases hq
end
section
variable {P:Program} {nx n:Nat} {ρ:Pl} {Φ:Imm→Prop} {w0:Bas Φ} {w:World} {E:Tr CV} {h:Tr CB} {a:Act}
theorem yC {s x:Operand} {T tx:TypeId} {v1 v2 v:Value} {w':World} (e1:(eA a).ev s=some v1) (e2:(eA a).ev x=some v2) (hr:∀ ty,(Builtin.append_ #[T,tx] ty #[v1,v2]).run P w=.ok v w') (d:Option Tmp) (ty:TypeId) (pos:String) (after:Array Edge) (g:Option (Nat×Bool)) :
 (execOp a.eval ⟨d,.call ⟨.builtin .append,⟨[s,x]⟩,⟨[T,tx]⟩⟩,ty,pos,after,g⟩).run P w=.ok (.value v) w':=by
 simp only [execOp,resolve,invoke,builtin,bE,bJ,aO,kS,bX,iT,tH e1,tH e2,hr]
theorem Mn {s x:Operand} {T tx:TypeId} {v1 v2 v:Value} {w':World} (e1:(eA a).ev s=some v1) (e2:(eA a).ev x=some v2) (hr:∀ ty,(Builtin.copy_ #[T,tx] ty #[v1,v2]).run P w=.ok v w') (d:Option Tmp) (ty:TypeId) (pos:String) (after:Array Edge) (g:Option (Nat×Bool)) :
 (execOp a.eval ⟨d,.call ⟨.builtin .copy,⟨[s,x]⟩,⟨[T,tx]⟩⟩,ty,pos,after,g⟩).run P w=.ok (.value v) w':=by
 simp only [execOp,resolve,invoke,builtin,bE,bJ,aO,kS,bX,iT,tH e1,tH e2,hr]
theorem Ji {T tx e:TypeId} {i:TypeInfo} {zv:Value} {sz m N C:Nat} {base:Option Addr} {xv:Value} {olds news:List Value} (hu:P.underlying T=some (.slice e)) (hi:P.info? e=some i) (hz:i.zero=some zv) (hsz:i.size=sz) (hzl:zv.cells.toList.length=sz) (h0:0<sz)
 (hold:(Builtin.firstCells i.size N (.slice base N C)).run P w.drew=.ok olds.toArray w.drew) (ho:olds.length=N*sz) (hs:Go.Src P sz tx xv m news w) (hC:C<N+m) (h1:(N+m)*i.bytes≤140737488355328) (h2:N+m≤4611686018427387904) :
 ∃ cap junk,(∀ ty,(Builtin.append_ #[T,tx] ty #[.slice base N C,xv]).run P w=.ok (.slice (some ⟨w.heap.size,0,none⟩) (N+m) cap) (w.drew.alloc (.cells (olds++news++junk).toArray e)))∧(olds++news).length+junk.length=cap*sz∧N+m≤cap∧cap≤maxLen:=by
 have hge:=grownCap_ge w (N+m) C e
 have hml:N+m≤maxLen:=by simp only [maxLen];omega
 have hle:=qC w (N+m) C e hml
 refine ⟨grownCap w (N+m) C e,(Builtin.zeroCells zv.cells (grownCap w (N+m) C e - (N+m))).toList,fun ty=>?_,?_,hge,hle⟩
 · rw [←hsz] at hs
   have hr:=run_append_grow_src (P:=P) w T tx ty e i zv hu hi hz base N C olds hold xv m news hs hC rG (growslice_fits hC h1)
   rw [hr]
   congr 3
   apply qI
   simp
 have hn:=hs.newsLen
 have e1:zv.cells.size=sz:=by rw [←hzl];simp
 have hz1:(Builtin.zeroCells zv.cells (grownCap w (N+m) C e - (N+m))).toList.length=(grownCap w (N+m) C e - (N+m))*sz:=by rw [kW,size_zeroCells,e1]
 rw [aI,hz1,ho,hn,←eL,←eL]
 congr 1;omega
theorem xH (w:World) (o:Obj):Upd (fun _=>False) w (w.drew.alloc o):=(lZ _ w).drew.alloc o
theorem wK (w:World) (o:Obj):(w.drew.alloc o).heap.size=w.heap.size+1:=by show (w.heap.push o).size=_;simp
theorem xI (w:World) (o:Obj):(w.drew.alloc o).heap[w.heap.size]?=some o:=by
 rw [show w.heap.size=w.drew.heap.size from rfl,sK]
theorem Oo {l:Rw} {vs junk:List Value} (hk:RL nx ρ l vs) (ty:Nat) {st:Nat}:DB nx ρ (vs.length+junk.length) (.cells l ty true st) (.cells (vs++junk).toArray ty (0,0)):=⟨vs,junk,hk,rfl,rfl,fun h=>by cases h⟩
theorem rN {α:Type} {b:Bool} {x y:α} (M:α→Prop) (h1:b=true→M x) (h2:b=false→M y):M (bif b then x else y):=by cases b;exact h2 rfl;exact h1 rfl
theorem rU {a b:Nat} (h:Nat.ble a b=true):a≤b:=bH h
theorem NG {a b:Nat} (h:Nat.ble a b=false):b<a:=by
 rcases aJ b a with h1 | h1
 · exact h1
 rw [Nat.ble_eq_true_of_le h1] at h;cases h
theorem Uj {a b:Nat} (h:Nat.beq a b=false):a≠b:=fun e=>by subst e;simp at h
theorem Wd.kill {op:Op} {h' h2:Tr CB} {v:CV} {nx':Nat} (hm:Mem ρ w0 h nx w) (ho:Lf ρ h nx w ρ h2 w) (hw:Wd P op ρ w0 h2 nx a w (.val v h' nx')):Wd P op ρ w0 h nx a w (.val v h' nx'):=by
 obtain ⟨h1,v',w',ρ',e1,e2,e3,e4,e5,e6⟩:=hw
 exact ⟨h1,v',w',ρ',e1,e2,e3,e4,ho.trans hm e5 (aH _) (dD _ _),e6⟩
theorem NH {T tx:Nat} {s x:Operand} (hs:Slots ρ E nx n a) (hm:Mem ρ w0 h nx w) (hfit:nx≤rO):Wd P (.call ⟨.builtin .append,⟨[s,x]⟩,⟨[T,tx]⟩⟩) ρ w0 h nx a w (SK P E h nx T tx s x):=by
 unfold SK
 split
 · rename_i e sz by' z hz
   obtain ⟨hu,i,zv,hi,hzv,hsz,hby,kz,hzl,h0⟩:=Eo hz nx ρ
   split
   · rename_i m news hsrc
     obtain ⟨xv,nw,ex,kn,hnl,hS⟩:=KB hs hm hsrc
     split
     · -- from nil
       rename_i hsv
       obtain ⟨v,e1,k1⟩:=rM hs hsv
       have e2:=mL.1 k1.2
       subst e2
       refine rN (Wd _ _ _ _ _ _ _ _) (fun _=>trivial) fun hm0=>rN (Wd _ _ _ _ _ _ _ _) (fun hb=>?_) fun _=>trivial
       have hm0:=Uj hm0
       simp only [aB] at hb
       have hb1:m*by'≤140737488355328:=rU hb.1
       obtain ⟨cap,junk,hr,hlen,hc1,hc2⟩:=Ji (base:=none) (N:=0) (C:=0) (olds:=[]) hu hi hzv hsz hzl h0 (run_firstCells_none ..) sI hS rG (by rw [hby,cO];exact hb1) (by rw [cO];exact rU hb.2.1)
       rw [cO] at hr hc1
       simp only [fM] at hr hlen
       refine oM (s:=nw.length+junk.length) hm hb.2.2 rfl (xH w _) (wK w _) (xI w _) (Oo (Oj kn) e) (fun ρ' hρ=>?_) (cK nx) (yC e1 ex hr)
       exact mK.2 ⟨cap,by rw [hρ],by rw [hρ,hlen];show 0+cap*sz=cap*sz;omega,hc1,hc2⟩
     · -- a slice
       rename_i t o N sz' c hsv
       refine rN (Wd _ _ _ _ _ _ _ _) (fun _=>trivial) fun hne=>?_
       have hsq:sz=sz':=by
        cases hb:Nat.beq sz sz' with
        | true=>exact aD hb
        | false=>rw [hb] at hne;cases hne
       subst hsq
       obtain ⟨v,e1,k1⟩:=rM hs hsv
       obtain ⟨C,hC⟩:=zU k1
       subst hC
       have hNC:N≤C:=by
        cases c with
        | some c'=>obtain ⟨q1,_,q3,_⟩:=jG.1 k1.2;cases q1;exact q3
        | none=>obtain ⟨c',q1,_,q3,_⟩:=mK.1 k1.2;cases q1;exact q3
       refine rN (Wd _ _ _ _ _ _ _ _) (fun hm0=>?_) fun hm0=>?_
       · -- nothing to append
         have hm0:=aD hm0
         subst hm0
         have hnw:nw=[]:=bW (by rw [hnl,nJ])
         subst hnw
         refine ⟨aH _,_,w,ρ,dD _ _,k1,hm,hfit,fR,yC e1 ex fun ty=>?_⟩
         rw [←hsz] at hS
         rcases hS.kind with ⟨e',hk⟩ | hk <;> simp [Builtin.append_,aS hu,aS hk,sizeOf,typeInfo,hi,hS.len,hNC,hS.cells,storeCells]
       have hm0:=Uj hm0
       split
       · rename_i l bt op st ht
         refine rN (Wd _ _ _ _ _ _ _ _) (fun _=>trivial) fun hbt=>?_
         have hbt:bt=e:=by
          cases hb:Nat.beq bt e with
          | true=>exact aD hb
          | false=>rw [hb] at hbt;cases hbt
         subst hbt
         have inplace:∀ c',N+m≤C→o+(N+m)*sz≤l.n→nx+1≤rO→Kn nx ρ (.sl t o (N+m) sz c') (.slice (some ⟨(ρ t).1,o,none⟩) (N+m) C)→Wd P (.call ⟨.builtin .append,⟨[s,x]⟩,⟨[T,tx]⟩⟩) ρ w0 h nx a w (.val (.sl t o (Nat.add N m) sz c') (h.set (some (.cells (Ky (Nat.add o (Nat.mul N sz)) news l) bt op nx)) rO t) (Nat.succ nx)):=fun c' hr1 hr2 hf1 hk=>by
          have hp:o+N*sz+nw.length≤l.n:=by rw [hnl,jS,←eL];exact hr2
          obtain ⟨cur,g1,g2,g3,g4⟩:=Ui hm hfit ht kn hp
          have hrun:=fun ty=>Df (P:=P) (tx:=tx) (ty:=ty) hu hi g1 (x:=xv) (by rw [hsz];exact hS) hr1 (by rw [hsz];exact g2)
          rw [hsz] at hrun
          have g5:=g4 _ (tM w (ρ t).1 _) BB
          exact ⟨cY _,_,_,ρ,dD _ _,hk.up (cY _) (dD _ _),g5.1,hf1,g5.2,yC e1 ex hrun⟩
         split
         · -- room known
           rename_i c'
           obtain ⟨q1,q2,q3,q4⟩:=jG.1 k1.2
           cases q1
           refine rN (Wd _ _ _ _ _ _ _ _) (fun hroom=>?_) fun hroom=>?_
           · have hroom:N+m≤C:=rU hroom
             refine rN (Wd _ _ _ _ _ _ _ _) (fun hfitl=>?_) fun _=>trivial
             simp only [aB] at hfitl
             exact inplace (some C) hroom (rU hfitl.1) (rU hfitl.2) ⟨k1.1,jG.2 ⟨rfl,q2,hroom,q4⟩⟩
           have hroom:C<N+m:=NG hroom
           refine rN (Wd _ _ _ _ _ _ _ _) (fun hb=>?_) fun _=>trivial
           simp only [aB] at hb
           obtain ⟨hb1,hb2,hb3,hb4⟩:=hb
           have hb1:(N+m)*by'≤140737488355328:=rU hb1
           obtain ⟨_,_,_,ob,p3,vs,junk0,kl,rfl,_,_⟩:=hm.own t _ ht
           have kk:=vV (k:=N*sz) kl (aD hb4)
           have hlen:((vs.drop o).take (N*sz)).length=N*sz:=by rw [←sJ kk];exact aD hb4
           have hdrop:((vs++junk0).drop o).take (N*sz)=(vs.drop o).take (N*sz):=by
            rw [bC,dM] at hlen
            by_cases h0:N*sz=0
            · rw [h0];simp
            rw [eM rG,fA Ux]
           have hold:(Builtin.firstCells i.size N (.slice (some ⟨(ρ t).1,o,none⟩) N C)).run P w.drew=.ok ((vs.drop o).take (N*sz)).toArray w.drew:=
            run_firstCells_some w.drew i.size N _ N C _ (by rw [hsz];exact hlen) (fun j v hj=>by
             have:=Hd p3 hdrop.symm j v hj
             simpa using this)
           obtain ⟨cap,junk,hr,hl2,hc1,hc2⟩:=Ji hu hi hzv hsz hzl h0 hold hlen hS hroom (by rw [hby];exact hb1) (rU hb2)
           refine oM (s:=((vs.drop o).take (N*sz)++nw).length+junk.length) hm hb3 rfl (xH w _) (wK w _) (xI w _) (Oo (Oj (Af kk kn)) bt) (fun ρ' hρ=>?_) (cK nx) (yC e1 ex hr)
           exact mK.2 ⟨cap,by rw [hρ];rfl,by rw [hρ,hl2];show 0+cap*sz=cap*sz;omega,hc1,hc2⟩
         -- room unknown
         obtain ⟨C',q1,q2,q3,q4⟩:=mK.1 k1.2
         cases q1
         obtain ⟨p1,ps,p2,ob,p3,vs,junk0,kl,rfl,p5,p6⟩:=hm.own t _ ht
         have hvl:=Cz kl
         refine rN (Wd _ _ _ _ _ _ _ _) (fun hfitl=>?_) fun hfitl=>?_
         · simp only [aB] at hfitl
           have hff:=rU hfitl.2
           have hfitl:o+(N+m)*sz≤l.n:=rU hfitl.1
           have hroom:N+m≤C:=by
            have:(N+m)*sz≤C*sz:=rG
            exact Nat.le_of_mul_le_mul_right this h0
           exact inplace none hroom hfitl hff ⟨k1.1,mK.2 ⟨C,rfl,q2,hroom,q4⟩⟩
         refine rN (Wd _ _ _ _ _ _ _ _) (fun hb=>?_) fun _=>trivial
         simp only [aB] at hb
         obtain ⟨⟨hb1,hb2⟩,hb3,hb4,hb5⟩:=hb
         have ho:=aD hb1
         subst ho
         have hNl:N*sz=l.n:=aD hb2
         have hb3:(N+m)*by'≤140737488355328:=rU hb3
         have hf5:nx+1≤rO:=rU hb5
         by_cases hroom:N+m≤C
         · -- in its place
           have hfit2:0+N*i.size+nw.length≤((vs++junk0).toArray).size:=by
            have:(N+m)*sz≤C*sz:=gC _ hroom
            rw [eL] at this
            rw [hsz,hnl,oC,aI];omega
           have hrun:=fun ty=>Df (P:=P) (tx:=tx) (ty:=ty) hu hi p3 (x:=xv) (by rw [hsz];exact hS) hroom hfit2
           obtain ⟨ρ',r1,r2,r3,r4⟩:=hm.rename (b':=.cells (MR l news) bt true nx) (w':=w.setRow (ρ t).1 ((vs++junk0).toArray.toList.take (0+N*i.size)++nw++(vs++junk0).toArray.toList.drop (0+N*i.size+nw.length)).toArray) hf5 rfl ht (tM w (ρ t).1 _) (by rw [lM w (ρ t).1 _ _ bt _ p3]) (by
            refine ⟨vs++nw,junk0.drop nw.length,Wx kl kn,?_,?_,fun hh=>by cases hh⟩
            · have e5:0+N*i.size=vs.length:=by rw [hsz,cO,hNl,hvl]
              rw [e5]
              simp only [List.take_left,nM]
            rw [aI,dM]
            have:(N+m)*sz≤C*sz:=gC _ hroom
            rw [eL] at this
            omega)
           refine ⟨cY _,_,_,ρ',r1,⟨cK nx,mK.2 ⟨C,?_,?_,hroom,q4⟩⟩,r3,hf5,r4,yC e1 ex hrun⟩
           · rw [r2];rfl
           rw [r2];exact q2
         have hroom:C<N+m:=rG
         have hold:(Builtin.firstCells i.size N (.slice (some ⟨(ρ t).1,0,none⟩) N C)).run P w.drew=.ok vs.toArray w.drew:=
          run_firstCells_some w.drew i.size N _ N C _ (by rw [hsz,←hvl];exact hNl.symm) (fun j v hj=>by
           have:=Hd p3 (o:=0) (m:=vs.length) (news:=vs) sI j v hj
           simpa using this)
         obtain ⟨cap,junk,hr,hl2,hc1,hc2⟩:=Ji hu hi hzv hsz hzl h0 hold (by rw [←hvl];exact hNl.symm) hS hroom (by rw [hby];exact hb3) (rU hb4)
         have hm2:=hm.kill hfit p1
         refine Wd.kill (h2:=h.set none rO t) hm hm2.2 ?_
         refine oM (s:=(vs++nw).length+junk.length) hm2.1 hb5 rfl (xH w _) (wK w _) (xI w _) (Oo (Wx kl kn) bt) (fun ρ' hρ=>?_) (cK nx) (yC e1 ex hr)
         exact mK.2 ⟨cap,by rw [hρ];rfl,by rw [hρ,hl2];show 0+cap*sz=cap*sz;omega,hc1,hc2⟩
       trivial
     trivial
   trivial
 trivial
end
section
variable {P:Program} {nx n:Nat} {ρ:Pl} {Φ:Imm→Prop} {w0:Bas Φ} {w:World} {E:Tr CV} {h:Tr CB} {a:Act}
theorem KC {T tx:Nat} {d x:Operand} (hs:Slots ρ E nx n a) (hm:Mem ρ w0 h nx w) (hfit:nx≤rO):Wd P (.call ⟨.builtin .copy,⟨[d,x]⟩,⟨[T,tx]⟩⟩) ρ w0 h nx a w (wv P E h nx (.call ⟨.builtin .copy,⟨[d,x]⟩,⟨[T,tx]⟩⟩)):=by
 show Wd _ _ _ _ _ _ _ _ (match FU P T with
  | some (_,sz,_,_)=>match sU E d with
    | some (.sl t o n sz' _)=>match sU E x with
      | some (.sl t2 o2 n2 sz2 _)=>bif Nat.beq sz sz' && Nat.beq sz sz2 then
       (match h.get t with
       | some (.cells l bt op _)=>(match h.get t2 with
         | some (.cells l2 _ _ _) =>
           bif Nat.beq (sG (sO l2 o2 (Nat.mul (Nat.min n2 n) sz))) (Nat.mul (Nat.min n2 n) sz) && (Cw (sO l2 o2 (Nat.mul (Nat.min n2 n) sz)) && (Nat.ble (Nat.add o (Nat.mul (Nat.min n2 n) sz)) l.n && Nat.ble (Nat.succ nx) rO)) then
            .val (.int .i64 (Nat.min n2 n)) (h.set (some (.cells (Ky o (sO l2 o2 (Nat.mul (Nat.min n2 n) sz)) l) bt op nx)) rO t) (Nat.succ nx) else .bad
         | _=>.bad)
       | _=>.bad) else .bad
      | some .nils=>.val (.int .i64 0) h nx
      | _=>.bad
    | _=>.bad
  | none=>.bad)
 split
 · rename_i e sz by' z hz
   obtain ⟨hu,i,zv,hi,hzv,hsz,hby,kz,hzl,h0⟩:=Eo hz nx ρ
   split
   · rename_i t o N sz' c hd
     obtain ⟨v,e1,k1⟩:=rM hs hd
     obtain ⟨C,rfl⟩:=zU k1
     split
     · rename_i t2 o2 n2 sz2 c2 hx
       obtain ⟨v2,e2,k2⟩:=rM hs hx
       obtain ⟨C2,rfl⟩:=zU k2
       refine rN (Wd _ _ _ _ _ _ _ _) (fun hb=>?_) fun _=>trivial
       simp only [aB] at hb
       have q1:=aD hb.1
       have q2:=aD hb.2
       subst q1 q2
       split
       · rename_i l bt op st ht
         split
         · rename_i l2 bt2 op2 st2 ht2
           refine rN (Wd _ _ _ _ _ _ _ _) (fun hb=>?_) fun _=>trivial
           simp only [aB] at hb
           obtain ⟨hb1,hb2,hb3,hb4⟩:=hb
           obtain ⟨k,hk⟩:∃ k,k=Nat.min n2 N:=⟨_,rfl⟩
           rw [←hk] at hb1 hb2 hb3 ⊢
           obtain ⟨_,_,_,ob,p3,vs,junk0,kl,rfl,_,_⟩:=hm.own t2 _ ht2
           have kk:=vV (k:=k*sz) kl (aD hb1)
           have hlen:((vs.drop o2).take (k*sz)).length=k*sz:=by rw [←sJ kk];exact aD hb1
           have hdrop:((vs++junk0).drop o2).take (k*sz)=(vs.drop o2).take (k*sz):=by
            rw [bC,dM] at hlen
            by_cases h0:k*sz=0
            · rw [h0];simp
            rw [eM rG,fA Ux]
           have hp:o+((vs.drop o2).take (k*sz)).length≤l.n:=by rw [hlen];exact rU hb3
           obtain ⟨cur,g1,g2,g3,g4⟩:=Ui hm hfit ht kk hp
           have hone:=Iy kk hb2
           have hrun:=fun ty=>FT (P:=P) (tx:=tx) (ty:=ty) (dCap:=C) (sCap:=C2) hu hi g1 hk.symm (by rw [hsz];exact hlen) (Hd p3 hdrop.symm) (fun v hv=>eZ.1 hone v hv) g2
           have g5:=g4 _ (tM w (ρ t).1 _) BB
           exact ⟨cY _,_,_,ρ,dD _ _,vW,g5.1,rU hb4,g5.2,Mn e1 e2 hrun⟩
         trivial
       trivial
     · rename_i hx
       obtain ⟨v2,e2,k2⟩:=rM hs hx
       have q2:=mL.1 k2.2
       subst q2
       exact ⟨aH _,_,w,ρ,dD _ _,vW,hm,hfit,fR,Mn e1 e2 fun ty=>AG hu hi (Nat.zero_min _)⟩
     trivial
   trivial
 trivial
theorem QK {op:Op} (hs:Slots ρ E nx n a) (hm:Mem ρ w0 h nx w) (hfit:nx≤rO):Wd P op ρ w0 h nx a w (wv P E h nx op):=by
 obtain ⟨r,hr⟩:∃ r,wv P E h nx op=r:=⟨_,rfl⟩
 have hr':=hr
 unfold wv at hr
 split at hr
 · rw [hr'];exact FV hs hm hr'
 · rw [hr'];exact NF hs hm hr'
 · rw [hr'];exact FW hs hm hfit hr'
 · rw [hr'];exact Lg hs hm hr'
 · rw [hr'];exact On hs hm hr'
 · exact NH hs hm hfit
 · exact KC hs hm hfit
 rw [hr',←hr];trivial
end
def bnd (o:Oper):List Nat:=(o.after.toList.filter (Region.binds .any)).map (·.on)
def Dg {α:Type} (p:α→Bool) (l:List α):Bool:=List.rec true (fun x _ ih=>p x && ih) l
def AH {α:Type} (p:α→Bool) (l:List α):Bool:=List.rec false (fun x _ ih=>p x || ih) l
theorem uA {α:Type} {p:α→Bool}:∀ {l:List α},Dg p l=true↔∀ x∈l,p x=true:=by
 intro l
 induction l with
 | nil=>exact ⟨fun _ x h=>wW,fun _=>rfl⟩
 | cons a l ih =>
   show (p a && Dg p l)=true↔_
   rw [aB,ih]
   exact ⟨fun h x hx=>by rcases dE.1 hx with rfl | hx;exact h.1;exact h.2 x hx,fun h=>⟨h a bL,fun x hx=>h x (bB _ hx)⟩⟩
theorem Jj {α:Type} {p:α→Bool}:∀ {l:List α},AH p l=true↔∃ x∈l,p x=true:=by
 intro l
 induction l with
 | nil=>exact ⟨fun h=>wW,fun ⟨x,h,_⟩=>wW⟩
 | cons a l ih =>
   show (p a || AH p l)=true↔_
   rw [lE,ih]
   exact ⟨fun h=>by rcases h with h | ⟨x,h1,h2⟩;exact ⟨a,bL,h⟩;exact ⟨x,bB _ h1,h2⟩,fun ⟨x,h1,h2⟩=>by rcases dE.1 h1 with rfl | h1;exact .inl h2;exact .inr ⟨x,h1,h2⟩⟩
def AI (m i:Nat) (o:Oper):Bool:=not (Nat.testBit m i) && Dg (Nat.testBit m) (bnd o)
def Jk (o:Oper) (i:Nat):Bool:=AH (Nat.beq i) (bnd o)
def AJ (p:Nat→Oper→Bool) (l:List Oper):Nat→Bool:=List.rec (fun _=>true) (fun o _ ih j=>p j o && ih (Nat.succ j)) l
def Fs (p:Nat→Oper→Bool) (l:List Oper):Nat→Option Nat:=List.rec (fun _=>none) (fun o _ ih j=>bif p j o then some j else ih (Nat.succ j)) l
theorem Oq {p:Nat→Oper→Bool}:∀ {l:List Oper} {j:Nat},AJ p l j=true→∀ k o,l[k]?=some o→p (j+k) o=true:=by
 intro l
 induction l with
 | nil=>intro j _ k o h;simp at h
 | cons x l ih =>
   intro j h k o hk
   have h':(p j x && AJ p l (j+1))=true:=h
   rw [aB] at h'
   cases k with
   | zero=>simp at hk;subst hk;exact h'.1
   | succ k =>
     have:=ih h'.2 k o (by simpa using hk)
     rw [show j+(k+1)=j+1+k by omega];exact this
theorem FX {p:Nat→Oper→Bool}:∀ {l:List Oper} {j i:Nat},Fs p l j=some i→∃ k o,i=j+k∧l[k]?=some o∧p i o=true:=by
 intro l
 induction l with
 | nil=>intro j i h;cases h
 | cons x l ih =>
   intro j i h
   have h':(bif p j x then some j else Fs p l (j+1))=some i:=h
   rcases rK h' with ⟨h1,h2⟩ | ⟨_,h2⟩
   · cases h2;exact ⟨0,x,rfl,rfl,h1⟩
   obtain ⟨k,o,e,h3,h4⟩:=ih h2
   exact ⟨k+1,o,by omega,by simpa using h3,h4⟩
def yV:Op→Bool
 | .move _ | .assign _ | .pick .. | .unOp .. | .binOp .. | .convert .. | .extract .. | .nilCheck _ | .fieldAddr .. | .field .. | .load .. | .makeFunc .. | .indexAddr .. | .index .. | .slice .. | .build .. | .lookup ..=>true
 | .call ⟨.builtin .len,_,_⟩ | .call ⟨.builtin .cap,_,_⟩ | .call ⟨.builtin .min,_,_⟩ | .call ⟨.builtin .max,_,_⟩=>true
 | _=>false
def frB (all:Array Oper) (m i:Nat) (oi:Oper) (l:List Oper):Bool:=AJ (fun j oj=>Nat.beq j i || (Nat.testBit m j || (Jk oj i || oi.apart all oj))) l 0
def Ep (m i:Nat):Nat:=m ||| (1 <<< i)
inductive Pk where
 | look
 | only
 | race (R:List Nat)
 | make (R:List Nat)
def FY:Op→Bool
 | .alloc _ | .box .. | .makeSlice .. | .buildSlice .. | .makeMap _ none=>true
 | _=>false
def isT (d:Nat):Operand→Bool | .tmp t=>Nat.beq t d | _=>false
def Jl (o:Oper):Bool:=FY o.op && (match o.guard with | none=>(match o.dst with | some d=>not (AH (isT d) o.op.operands.toList) | none=>false) | some _=>false)
def KD (R:List Nat) (i:Nat):Bool:=AH (Nat.beq i) R
def Jm (l:List Oper) (i:Nat) (p:Oper→Bool):Bool:=match Br l i with | some o=>p o | none=>false
def QL (R:List Nat) (m:Nat):Nat:=List.rec m (fun j _ ih=>Ep ih j) R
def yY (l:List Oper) (m:Nat):List Nat:=List.rec (motive:=fun _=>Nat→List Nat) (fun _=>[]) (fun o _ ih j=>bif AI m j o then j :: ih (Nat.succ j) else ih (Nat.succ j)) l 0
def Mo (l:List Oper) (m:Nat) (Rc:List Nat) (i:Nat) (o:Oper) (R:List Nat):Bool:=
 (AI m i o && Dg (fun k=>Nat.beq k i || KD R k) Rc) && ((not (KD R i) && Dg (fun j=>Jm l j fun oj=>(Jl oj && not (Nat.testBit m j)) && (oj.apart l.toArray o && Dg (fun k=>Nat.beq k j || Jm l k fun ok=>oj.apart l.toArray ok) R)) R) &&
  AJ (fun j oj=>Nat.beq j i || not (AI (QL R m) j oj)) l 0)
def Jn (R Rc:List Nat):Bool:=match R,Rc with | [],[]=>true | _,_=>false
theorem Jo {R Rc:List Nat} (h:Jn R Rc=true):R=[]∧Rc=[]:=by
 cases R <;> cases Rc <;> first | exact ⟨rfl,rfl⟩ | cases h
def Jp (l:List Oper) (f:Nat):Nat→List Nat→Option (List (Nat×Pk)):=
 Nat.rec (fun m Rc=>bif AJ (fun j o=>not (AI m j o)) l 0 then (bif Jn [] Rc then some [] else none) else none)
  (fun _ ih m Rc=>match Fs (fun i o=>yV o.op && (AI m i o && frB l.toArray m i o l)) l 0 with
   | some i=>(match ih (Ep m i) Rc with | some p=>some ((i,.look) :: p) | none=>none)
   | none=>(match Fs (fun i o=>AI m i o && not (Jl o)) l 0 with
     | some i=>bif Jm l i (fun o=>Mo l m Rc i o ((yY l m).filter fun j=>not (Nat.beq j i))) then
      (bif Jn ((yY l m).filter fun j=>not (Nat.beq j i)) Rc then (match ih (Ep m i) [] with | some p=>some ((i,.only) :: p) | none=>none) else
      bif Jm l i (fun o=>not (FY o.op) && (match o.guard with | none=>true | some _=>false)) then (match ih (Ep m i) ((yY l m).filter fun j=>not (Nat.beq j i)) with | some p=>some ((i,.race ((yY l m).filter fun j=>not (Nat.beq j i))) :: p) | none=>none) else none) else none
     | none=>(match Fs (AI m) l 0 with
       | some i=>bif Jm l i (fun o=>Jl o && Mo l m Rc i o ((yY l m).filter fun j=>not (Nat.beq j i))) then
        (bif Jn ((yY l m).filter fun j=>not (Nat.beq j i)) Rc then (match ih (Ep m i) [] with | some p=>some ((i,.only) :: p) | none=>none) else
        (match ih (Ep m i) ((yY l m).filter fun j=>not (Nat.beq j i)) with | some p=>some ((i,.make ((yY l m).filter fun j=>not (Nat.beq j i))) :: p) | none=>none)) else none
       | none=>none))) f
def Jq (l:List Oper):Option (List (Nat×Pk)):=bif Region.noSelect l.toArray && l.all sM then Jp l l.length 0 [] else none
def LM (l:List Oper) (L:Array Bool) (m:Nat):Prop:=L.size=l.length∧∀ i,L.getD i false=Nat.testBit m i
theorem LM.in {l:List Oper} {L:Array Bool} {m:Nat} (h:LM l L m) {i:Nat} (hi:i<l.length):L.getD i true=Nat.testBit m i:=by
 rw [←h.2 i]
 have:i<L.size:=by rw [h.1];exact hi
 simp [this]
theorem LM.set {l:List Oper} {L:Array Bool} {m i:Nat} (h:LM l L m) (hi:i<l.length):LM l (L.setIfInBounds i true) (Ep m i):=by
 refine ⟨by simp [h.1],fun j=>?_⟩
 unfold Ep
 rw [Nat.testBit_or,←h.2 j]
 have hsz:i<L.size:=by rw [h.1];exact hi
 by_cases e:i=j
 · subst e
   have:(1 <<< i).testBit i=true:=by rw [Nat.testBit_shiftLeft];simp
   rw [this,Bool.or_true]
   simp [hsz]
 have:(1 <<< i).testBit j=false:=by rw [Nat.one_shiftLeft,Nat.testBit_two_pow_of_ne e]
 rw [this,Bool.or_false]
 rw [fH,fH,gK e]
theorem LM.start (l:List Oper):LM l (Array.replicate l.length false) 0:=by
 refine ⟨by simp,fun i=>?_⟩
 rw [Nat.zero_testBit,fH,Array.getElem?_replicate]
 split <;> rfl
theorem He {l:List Oper} {L:Array Bool} {m j:Nat} {o:Oper} (h:LM l L m) (hj:l[j]?=some o):AI m j o=true↔j∈Region.ready .any l.toArray L:=by
 have hlt:j<l.length:=(aV.1 hj).1
 rw [eX]
 unfold AI
 rw [aB,dV,uA,h.in hlt]
 have hj':l.toArray[j]?=some o:=by simpa using hj
 refine ⟨fun ⟨h1,h2⟩=>⟨h1,o,hj',fun e he hb=>?_⟩,fun ⟨h1,o',ho',h2⟩=>⟨h1,fun x hx=>?_⟩⟩
 · rw [h.2];exact h2 e.on (dP.2 ⟨e,gJ.2 ⟨kN.2 he,hb⟩,rfl⟩)
 rw [hj'] at ho';cases ho'
 obtain ⟨e,he,rfl⟩:=dP.1 hx
 obtain ⟨he1,he2⟩:=gJ.1 he
 rw [←h.2];exact h2 e (kN.1 he1) he2
theorem Jr {o:Oper} {i:Nat}:Jk o i=true↔∃ e∈o.after,Region.binds .any e=true∧e.on=i:=by
 unfold Jk
 rw [Jj]
 refine ⟨fun ⟨x,hx,hb⟩=>?_,fun ⟨e,he,hb,hi⟩=>⟨i,dP.2 ⟨e,gJ.2 ⟨kN.2 he,hb⟩,hi⟩,by simp⟩⟩
 have:=aD hb
 subst this
 obtain ⟨e,he,rfl⟩:=dP.1 hx
 obtain ⟨he1,he2⟩:=gJ.1 he
 exact ⟨e,kN.1 he1,he2,rfl⟩
def Js (R:List Nat) (L:Array Bool):Array Bool:=R.foldr (fun j L=>L.setIfInBounds j true) L
structure RaceOk (l:List Oper) (L:Array Bool) (Rc:List Nat) (i:Nat) (R:List Nat):Prop where
 rd:i∈Region.ready .any l.toArray L
 sub:∀ k∈Rc,k=i∨k∈R
 ni:i ∉ R
 mks:∀ j∈R,∃ oj,l[j]?=some oj∧Jl oj=true∧L.getD j true=false∧(∀ o,l[i]?=some o→oj.apart l.toArray o=true)∧∀ k∈R,k≠j→∀ ok,l[k]?=some ok→oj.apart l.toArray ok=true
 only:∀ j,j∈Region.ready .any l.toArray (Js R L)→j=i
def PlanOk (l:List Oper):Array Bool→List Nat→List (Nat×Pk)→Prop
 | L,Rc,[]=>Region.ready .any l.toArray L=[]∧Rc=[]
 | L,Rc,(i,.look) :: p=>(∃ o,l[i]?=some o∧yV o.op=true∧i∈Region.ready .any l.toArray L∧∀ j oj,l.toArray[j]?=some oj→j≠i→L.getD j true=false→(∀ e∈oj.after,Region.binds .any e=true→e.on≠i)→o.apart l.toArray oj=true)∧PlanOk l (L.setIfInBounds i true) Rc p
 | L,Rc,(i,.only) :: p=>Rc=[]∧(∃ o,l[i]?=some o∧i∈Region.ready .any l.toArray L∧∀ j∈Region.ready .any l.toArray L,j=i)∧PlanOk l (L.setIfInBounds i true) [] p
 | L,Rc,(i,.race R) :: p=>RaceOk l L Rc i R∧(∃ o,l[i]?=some o∧o.guard=none∧FY o.op=false)∧PlanOk l (L.setIfInBounds i true) R p
 | L,Rc,(i,.make R) :: p=>RaceOk l L Rc i R∧(∃ o,l[i]?=some o∧Jl o=true)∧PlanOk l (L.setIfInBounds i true) R p
theorem yT {l:List Oper} {i:Nat} {p:Oper→Bool} (h:Jm l i p=true):∃ o,l[i]?=some o∧p o=true:=by
 unfold Jm at h
 split at h
 · rename_i o ho;exact ⟨o,by rw [←vE];exact ho,h⟩
 cases h
theorem Rs {R:List Nat} {i:Nat}:KD R i=true↔i∈R:=by
 unfold KD
 rw [Jj]
 exact ⟨fun ⟨x,h1,h2⟩=>by rw [aD h2];exact h1,fun h=>⟨i,h,by simp⟩⟩
theorem Xc {l:List Oper}:∀ {R:List Nat} {L:Array Bool} {m:Nat},LM l L m→(∀ j∈R,j<l.length)→LM l (Js R L) (QL R m)
 | [],_,_,h,_=>h
 | j :: R,_,_,h,hr=>(Xc h fun k hk=>hr k (bB _ hk)).set (hr j (bL ..))
theorem Rt {l:List Oper} {m:Nat} {L:Array Bool} {Rc R:List Nat} {i:Nat} {o:Oper} (hL:LM l L m) (ho:l[i]?=some o) (h:Mo l m Rc i o R=true):RaceOk l L Rc i R:=by
 unfold Mo at h
 simp only [aB] at h
 obtain ⟨⟨h1,h2⟩,⟨h3,h4⟩,h5⟩:=h
 have hmk:∀ j∈R,∃ oj,l[j]?=some oj∧Jl oj=true∧Nat.testBit m j=false∧oj.apart l.toArray o=true∧∀ k∈R,k≠j→∀ ok,l[k]?=some ok→oj.apart l.toArray ok=true:=fun j hj=>by
  have:=uA.1 h4 j hj
  obtain ⟨oj,e1,e2⟩:=yT this
  simp only [aB,dV] at e2
  obtain ⟨⟨e3,e4⟩,e5,e6⟩:=e2
  refine ⟨oj,e1,e3,e4,e5,fun k hk hne ok hok=>?_⟩
  have:=uA.1 e6 k hk
  simp only [lE] at this
  rcases this with h | h
  · exact absurd (aD h) hne
  obtain ⟨ok',e7,e8⟩:=yT h
  rw [hok] at e7;cases e7;exact e8
 have hlt:∀ j∈R,j<l.length:=fun j hj=>by obtain ⟨oj,e1,_⟩:=hmk j hj;exact (aV.1 e1).1
 refine ⟨(He hL ho).1 h1,fun k hk=>?_,fun hi=>?_,fun j hj=>?_,fun j hj=>?_⟩
 · have:=uA.1 h2 k hk
   simp only [lE] at this
   exact this.imp aD Rs.1
 · rw [Rs.2 hi] at h3;cases h3
 · obtain ⟨oj,e1,e2,e3,e4,e5⟩:=hmk j hj
   exact ⟨oj,e1,e2,by rw [hL.in (hlt j hj)];exact e3,fun o' ho'=>by rw [ho] at ho';cases ho';exact e4,e5⟩
 obtain ⟨_,oj,hoj,_⟩:=eX.1 hj
 have hoj':l[j]?=some oj:=by simpa using hoj
 have:=Oq h5 j oj hoj'
 rw [cO,(He (Xc hL hlt) hoj').2 hj] at this
 simp only [Bool.not_true,Bool.or_false] at this
 exact aD this
theorem FZ {l:List Oper}:∀ {f m:Nat} {L:Array Bool} {Rc:List Nat} {p:List (Nat×Pk)},LM l L m→Jp l f m Rc=some p→PlanOk l L Rc p∧p.length=f:=by
 intro f
 induction f with
 | zero =>
   intro m L Rc p hL h
   have h':(bif AJ (fun j o=>not (AI m j o)) l 0 then (bif Jn [] Rc then some [] else none) else none)=some p:=h
   rcases rK h' with ⟨h1,h2⟩ | ⟨_,h2⟩
   · rcases rK h2 with ⟨h3,h2⟩ | ⟨_,h2⟩
     · obtain ⟨_,rfl⟩:=Jo h3
       cases h2
       refine ⟨⟨gQ.2 fun j hj=>?_,rfl⟩,rfl⟩
       obtain ⟨_,o,ho,_⟩:=eX.1 hj
       have ho':l[j]?=some o:=by simpa using ho
       have:=Oq h1 j o ho'
       rw [cO] at this
       rw [(He hL ho').2 hj] at this
       cases this
     cases h2
   · cases h2
 | succ f ih =>
   intro m L Rc p hL h
   have h':(match Fs (fun i o=>yV o.op && (AI m i o && frB l.toArray m i o l)) l 0 with
    | some i=>(match Jp l f (Ep m i) Rc with | some p=>some ((i,.look) :: p) | none=>none)
    | none=>(match Fs (fun i o=>AI m i o && not (Jl o)) l 0 with
      | some i=>bif Jm l i (fun o=>Mo l m Rc i o ((yY l m).filter fun j=>not (Nat.beq j i))) then
       (bif Jn ((yY l m).filter fun j=>not (Nat.beq j i)) Rc then (match Jp l f (Ep m i) [] with | some p=>some ((i,.only) :: p) | none=>none) else
       bif Jm l i (fun o=>not (FY o.op) && (match o.guard with | none=>true | some _=>false)) then (match Jp l f (Ep m i) ((yY l m).filter fun j=>not (Nat.beq j i)) with | some p=>some ((i,.race ((yY l m).filter fun j=>not (Nat.beq j i))) :: p) | none=>none) else none) else none
      | none=>(match Fs (AI m) l 0 with
        | some i=>bif Jm l i (fun o=>Jl o && Mo l m Rc i o ((yY l m).filter fun j=>not (Nat.beq j i))) then
         (bif Jn ((yY l m).filter fun j=>not (Nat.beq j i)) Rc then (match Jp l f (Ep m i) [] with | some p=>some ((i,.only) :: p) | none=>none) else
         (match Jp l f (Ep m i) ((yY l m).filter fun j=>not (Nat.beq j i)) with | some p=>some ((i,.make ((yY l m).filter fun j=>not (Nat.beq j i))) :: p) | none=>none)) else none
        | none=>none)))=some p:=h
   have lt:∀ {i:Nat} {o:Oper},l[i]?=some o→i<l.length:=fun h=>(aV.1 h).1
   have one:∀ {i:Nat} {o:Oper},l[i]?=some o→RaceOk l L [] i []→(∃ o,l[i]?=some o∧i∈Region.ready .any l.toArray L∧∀ j∈Region.ready .any l.toArray L,j=i):=fun ho hr=>⟨_,ho,hr.rd,hr.only⟩
   split at h'
   · rename_i i hi
     obtain ⟨k,o,rfl,ho,hp⟩:=FX hi
     rw [cO] at *
     simp only [aB] at hp
     split at h'
     · rename_i q hq
       cases h'
       obtain ⟨e1,e2⟩:=ih (hL.set (lt ho)) hq
       refine ⟨⟨⟨o,ho,hp.1,(He hL ho).1 hp.2.1,fun j oj hj hne hun hno=>?_⟩,e1⟩,by rw [bV,e2]⟩
       have hj':l[j]?=some oj:=by simpa using hj
       have:=Oq hp.2.2 j oj hj'
       rw [cO] at this
       simp only [lE] at this
       rcases this with h1 | h1 | h1 | h1
       · exact absurd (aD h1) hne
       · rw [hL.in (lt hj')] at hun;rw [hun] at h1;cases h1
       · obtain ⟨e,he,hb,hi⟩:=Jr.1 h1
         exact absurd hi (hno e he hb)
       exact h1
     cases h'
   split at h'
   · rename_i i hi
     rcases rK h' with ⟨h1,h2⟩ | ⟨_,h2⟩
     · obtain ⟨o,ho,hr⟩:=yT h1
       generalize ((yY l m).filter fun j=>not (Nat.beq j i))=R at hr h2
       have hro:=Rt hL ho hr
       rcases rK h2 with ⟨h3,h2⟩ | ⟨_,h2⟩
       · obtain ⟨rfl,rfl⟩:=Jo h3
         split at h2
         · rename_i q hq
           cases h2
           obtain ⟨e1,e2⟩:=ih (hL.set (lt ho)) hq
           exact ⟨⟨rfl,one ho hro,e1⟩,by rw [bV,e2]⟩
         cases h2
       rcases rK h2 with ⟨h3,h4⟩ | ⟨_,h4⟩
       · obtain ⟨o',ho',hg⟩:=yT h3
         split at h4
         · rename_i q hq
           cases h4
           obtain ⟨e1,e2⟩:=ih (hL.set (lt ho)) hq
           rw [aB,dV] at hg
           refine ⟨⟨hro,⟨o',ho',?_,hg.1⟩,e1⟩,by rw [bV,e2]⟩
           cases hgd:o'.guard with
           | none=>rfl
           | some g=>rw [hgd] at hg;cases hg.2
         cases h4
       cases h4
     cases h2
   split at h'
   · rename_i i hi
     rcases rK h' with ⟨h1,h2⟩ | ⟨_,h2⟩
     · obtain ⟨o,ho,hr⟩:=yT h1
       rw [aB] at hr
       obtain ⟨hmk,hr⟩:=hr
       generalize ((yY l m).filter fun j=>not (Nat.beq j i))=R at hr h2
       have hro:=Rt hL ho hr
       rcases rK h2 with ⟨h3,h2⟩ | ⟨_,h2⟩
       · obtain ⟨rfl,rfl⟩:=Jo h3
         split at h2
         · rename_i q hq
           cases h2
           obtain ⟨e1,e2⟩:=ih (hL.set (lt ho)) hq
           exact ⟨⟨rfl,one ho hro,e1⟩,by rw [bV,e2]⟩
         cases h2
       split at h2
       · rename_i q hq
         cases h2
         obtain ⟨e1,e2⟩:=ih (hL.set (lt ho)) hq
         exact ⟨⟨hro,⟨o,ho,hmk⟩,e1⟩,by rw [bV,e2]⟩
       cases h2
     cases h2
   cases h'
theorem GA {l:List Oper} {p:List (Nat×Pk)} (h:Jq l=some p):Region.noSelect l.toArray=true∧l.all sM=true∧PlanOk l (Array.replicate l.length false) [] p∧p.length=l.length:=by
 unfold Jq at h
 rcases rK h with ⟨h1,h2⟩ | ⟨_,h2⟩
 · rw [aB] at h1
   obtain ⟨e1,e2⟩:=FZ (LM.start l) h2
   exact ⟨h1.1,h1.2,e1,e2⟩
 cases h2
def AK {α:Type} (f:α→α) (l:List α):Nat→List α:=List.rec (fun _=>[]) (fun x xs ih n=>Nat.rec (f x :: xs) (fun n _=>x :: ih n) n) l
theorem Xd {α:Type} (f:α→α):∀ (l:List α) (n:Nat),AK f l n=l.modify n f
 | [],n=>by simp [AK]
 | x :: l,0=>rfl
 | x :: l,n+1=>by show x :: AK f l n=_;rw [Xd f l n];rfl
def WH (P:Program) (E:Tr CV) (h:Tr CB) (nx:Nat) (T:TypeId):Ro:=bif Nat.ble (Nat.succ nx) rO then
 (bif MZ P T then .val (.mp nx) (h.set (some (.mapI [] nx)) rO nx) (Nat.succ nx) else
  bif NA P T then .val (.mp nx) (h.set (some (.mapK [] nx)) rO nx) (Nat.succ nx) else .bad) else .bad
def mv1 (P:Program) (E:Tr CV) (h:Tr CB) (nx:Nat) (T:TypeId) (x:Operand) (i:Operand) (c:Bool):Ro:=match sU E x with
 | some (.mp t)=>match sU E i with
   | some k=>match h.get t with
     | some (.mapI l _)=>match AD k with | some n=>(bif MZ P T then .val (NZ c (Le El n l)) h nx else .bad) | none=>.bad
     | some (.mapK l _)=>match AE k with | some n=>(bif NA P T then .val (NZ c (Le NY n l)) h nx else .bad) | none=>.bad
     | _=>.bad
   | none=>.bad
 | _=>.bad
def mv2 (P:Program) (E:Tr CV) (h:Tr CB) (nx:Nat) (T:TypeId) (x:Operand) (i:Operand) (y:Operand):Ro:=match sU E x with
 | some (.mp t)=>match sU E i with
   | some k=>match sU E y with
     | some (.int .i64 v)=>bif Nat.ble (Nat.succ nx) rO then (match h.get t with
       | some (.mapI l _)=>match AD k with | some n=>(bif MZ P T then .unit (h.set (some (.mapI (FQ El n v l) nx)) rO t) (Nat.succ nx) else .bad) | none=>.bad
       | some (.mapK l _)=>match AE k with | some n=>(bif NA P T then .unit (h.set (some (.mapK (FQ NY n v l) nx)) rO t) (Nat.succ nx) else .bad) | none=>.bad
       | _=>.bad) else .bad
     | _=>.bad
   | none=>.bad
 | _=>.bad
def mv3 (P:Program) (E:Tr CV) (h:Tr CB) (nx:Nat) (T:TypeId) (x:Operand) (i:Operand):Ro:=match sU E x with
 | some (.mp t)=>match sU E i with
   | some k=>bif Nat.ble (Nat.succ nx) rO then (match h.get t with
     | some (.mapK l _)=>match AE k with
       | some n=>(bif NA P T then (match Le NY n l with
         | none=>.val (.tup (.cons (.int .i64 0) (.cons (.int .i64 l.length) .nil))) (h.set (some (.mapK (l++[(n,0)]) nx)) rO t) (Nat.succ nx)
         | some _=>.bad) else .bad)
       | none=>.bad
     | some (.mapI l _)=>match AD k with
       | some n=>(bif MZ P T then (match Le El n l with
         | none=>.val (.tup (.cons (.int .i64 0) (.cons (.int .i64 l.length) .nil))) (h.set (some (.mapI (l++[(n,0)]) nx)) rO t) (Nat.succ nx)
         | some _=>.bad) else .bad)
       | none=>.bad
     | _=>.bad) else .bad
   | none=>.bad
 | _=>.bad
def mv4 (P:Program) (E:Tr CV) (h:Tr CB) (nx:Nat) (T:TypeId) (x:Operand) (s:Operand) (y:Operand):Ro:=match sU E x with
 | some (.mp t)=>match sU E s with
   | some (.int .i64 m)=>match sU E y with
     | some (.int .i64 v)=>bif Nat.ble (Nat.succ nx) rO && uO 0 m then (match h.get t with
       | some (.mapK l _)=>bif Nat.ble (Nat.succ m.toNat) l.length then .unit (h.set (some (.mapK (AK (fun p=>(p.1,v)) l m.toNat) nx)) rO t) (Nat.succ nx) else .bad
       | some (.mapI l _)=>bif Nat.ble (Nat.succ m.toNat) l.length then .unit (h.set (some (.mapI (AK (fun p=>(p.1,v)) l m.toNat) nx)) rO t) (Nat.succ nx) else .bad
       | _=>.bad) else .bad
     | _=>.bad
   | _=>.bad
 | _=>.bad
def mv5 (P:Program) (E:Tr CV) (h:Tr CB) (nx:Nat) (T:TypeId) (n:Nat) (parts:List (Nat×Operand)):Ro:=bif Nat.beq n 0 && Nat.ble (Nat.succ nx) rO then (match parts with
 | []=>match Mj P T with
   | some (e,sz)=>.val (.sl nx 0 0 sz (some 0)) (h.set (some (.cells (Kz .nil) e false nx)) rO nx) (Nat.succ nx)
   | none=>.bad
 | _=>.bad) else .bad
def mv6 (P:Program) (E:Tr CV) (h:Tr CB) (nx:Nat) (s:TypeId) (t:TypeId) (x:Operand):Ro:=match sU E x with
 | some (.sl b o n sz c)=>match P.underlying t with
   | some (.slice e)=>match P.underlying e with
     | some (.int .u8)=>bif Nat.beq s t && Nat.ble (Nat.succ nx) rO then (match h.get b with
       | some (.cells l ty false _)=>.val (.sl b o n sz c) (h.set (some (.ro l ty nx)) rO b) (Nat.succ nx)
       | _=>.bad) else .bad
     | _=>.bad
   | _=>.bad
 | _=>.bad
def mv7 (P:Program) (E:Tr CV) (h:Tr CB) (nx:Nat) (T:TypeId) (x:Operand):Ro:=match sU E x with
 | some (.ptr t o)=>match h.get t with
   | some (.ro l _ _)=>bif tZ P T then (match Zy l o with | some c=>.val c h nx | none=>.bad) else .bad
   | _=>.bad
 | _=>.bad
def mv8 (P:Program) (E:Tr CV) (h:Tr CB) (nx:Nat) (T:TypeId) (x:Operand) (i:Operand):Ro:=match sU E x with
 | some (.str s)=>match P.underlying T with
   | some .string=>match sU E i with
     | some (.int _ m)=>bif uO 0 m then (match Ek s m.toNat with | some c=>.val c h nx | none=>.bad) else .bad
     | _=>.bad
   | _=>.bad
 | _=>.bad
def mv9 (P:Program) (E:Tr CV) (h:Tr CB) (nx:Nat) (T:TypeId) (x:Operand) (lo hi:Option Operand):Ro:=match sU E x with
 | some (.ptr t o)=>match lo with
   | none=>match hi with
     | none=>match PZ P T with
       | some (n,_,sz)=>match h.get t with
         | some (.cells l _ _ _)=>bif Nat.ble (Nat.add o (Nat.mul n sz)) l.n && Nat.ble n 4611686018427387904 then .val (.sl t o n sz (some n)) h nx else .bad
         | _=>.bad
       | none=>.bad
     | some _=>.bad
   | some _=>.bad
 | some (.str s)=>match P.underlying T with
   | some .string=>match NB E lo with
     | some l=>match hiC E (sG s) hi with
       | some hh=>bif uO 0 l && (uO l hh && uO hh (sG s)) then .val (.str (zS (hh.toNat - l.toNat) (zR l.toNat s))) h nx else .bad
       | none=>.bad
     | none=>.bad
   | _=>.bad
 | _=>.bad
def QM:CV→Bool
 | .int .u8 n=>uO 0 n && not (uO 256 n)
 | _=>false
def GB (l:CV):Bool:=lrec true (fun a _ ih=>QM a && ih) l
def QN (P:Program) (E:Tr CV) (h:Tr CB) (nx:Nat) (s:TypeId) (x:Operand):Ro:=match P.underlying s with
 | some (.slice e)=>match P.underlying e with
   | some (.int .u8)=>match sU E x with
     | some .nils=>.val (.str .nil) h nx
     | some (.sl b o n sz _)=>match h.get b with
       | some (.cells l _ _ _)=>bif Nat.beq (sG (sO l o n)) n && GB (sO l o n) then .val (.str (sO l o n)) h nx else .bad
       | _=>.bad
     | _=>.bad
   | _=>.bad
 | _=>.bad
def QO (P:Program) (E:Tr CV) (h:Tr CB) (nx:Nat) (s:TypeId) (x:Operand):Ro:=match P.underlying s with
 | some (.pointer u)=>match AY P u with
   | some k=>bif Nat.beq k 0 then .bad else (match sU E x with
     | some (.ptr t o)=>match h.get t with
       | some (.cells l _ _ _)=>bif Nat.ble (Nat.succ o) l.n then .val (.ptr t o) h nx else .bad
       | _=>.bad
     | _=>.bad)
   | none=>.bad
 | _=>.bad
def QP (P:Program) (E:Tr CV) (h:Tr CB) (nx:Nat) (s u:TypeId) (x:Operand):Ro:=match P.underlying s with
 | some .unsafePointer=>match P.info? u with
   | some _=>match sU E x with
     | some (.ptr t o)=>match h.get t with
       | some (.cells l ty false _)=>bif liesAt P P.depth ty (l.n / P.cellsOf ty) o u 1 then .val (.ptr t o) h nx else .bad
       | _=>.bad
     | _=>.bad
   | none=>.bad
 | _=>.bad
def mvC (P:Program) (E:Tr CV) (h:Tr CB) (nx:Nat) (s t:TypeId) (x:Operand):Ro:=match P.underlying t with
 | some .string=>QN P E h nx s x
 | some .unsafePointer=>QO P E h nx s x
 | some (.pointer u)=>QP P E h nx s u x
 | _=>mv6 P E h nx s t x
def QQ (E:Tr CV) (h:Tr CB) (nx:Nat) (x:Operand):Ro:=match sU E x with
 | some (.sl t o n _ (some c))=>bif Nat.beq c 0 then .bad else .val (.ptr t o) h nx
 | some (.sl t o n _ none)=>bif Nat.beq n 0 then .bad else .val (.ptr t o) h nx
 | some .nils=>.val .nilp h nx
 | _=>.bad
def QR (P:Program) (E:Tr CV) (h:Tr CB) (nx:Nat) (x y:Operand) (pt it:TypeId):Ro:=match sU E y with
 | some (.int .i64 m)=>match sU E x with
   | some .nilp=>bif El m 0 then .val (.str .nil) h nx else .bad
   | some (.ptr t o)=>match P.underlying pt with
     | some (.pointer e)=>match h.get t with
       | some (.cells l ty _ _)=>bif (Nat.beq o 0 && (Nat.beq ty e && Nat.beq (P.cellsOf e) 1)) && ((uO 1 m && uO m 9223372036854775807) && (Nat.beq (sG (sO l 0 m.toNat)) m.toNat && (GB (sO l 0 m.toNat) && Nat.ble nx rO))) then .val (.str (sO l 0 m.toNat)) (h.set none rO t) nx else .bad
       | _=>.bad
     | _=>.bad
   | _=>.bad
 | _=>.bad
def Mp (P:Program) (g:Nat):Bool:=match Br P.funcs.toList g with
 | some fn => fn.name == "internal/abi.NoEscape" && (fn.origin == "" && fn.body.isNone)
 | none=>false
def QS (P:Program):Operand→Bool
 | .func g=>Mp P g
 | _=>false
theorem GC {fn : Func} (hn : fn.name = "internal/abi.NoEscape") (ho : fn.origin = "") : Extern.findNext fn = none ∧ Extern.find fn = some Extern.AbiNoEscape.same := by
 have h1 : Extern.allNextRows.lookup "internal/abi.NoEscape" = none := by kernel_rfl
 have h2 : Extern.allNextRows.lookup "" = none := by kernel_rfl
 refine ⟨?_,?_⟩
 · unfold Extern.findNext
   simp only [hn,ho,h1,h2];rfl
 unfold Extern.find
 simp only [hn]
 have h3 : Extern.allGenericRows.lookup "internal/abi.NoEscape" = none := by kernel_rfl
 have h4 : Extern.allTypedRows.lookup "internal/abi.NoEscape" = none := by kernel_rfl
 simp only [h3,h4]
 rfl
theorem GD {P : Program} {g : Nat} (h : Mp P g = true) : ∃ fn, P.funcs[g]? = some fn ∧ (fn.name == "runtime.NumGoroutine") = false ∧ fn.body.isNone = true ∧ Extern.findNext fn = none ∧ Extern.find fn = some Extern.AbiNoEscape.same := by
 unfold Mp at h
 split at h
 · rename_i fn hfn
   simp only [aB,beq_iff_eq] at h
   rw [vE,mQ] at hfn
   obtain ⟨k1,k2⟩:=GC h.1 h.2.1
   exact ⟨fn,hfn,by rw [h.1];decide,h.2.2,k1,k2⟩
 cases h
def QT (P:Program) (E:Tr CV) (h:Tr CB) (nx:Nat) (g:Nat) (x:Operand):Ro:=bif Mp P g then (match sU E x with | some c=>.val c h nx | none=>.bad) else .bad
def QU (P:Program) (E:Tr CV) (h:Tr CB) (nx:Nat) (T:TypeId) (x:Operand):Ro:=match sU E x with
 | some (.str s)=>match P.underlying T with
   | some .string=>bif Nat.ble (Nat.succ nx) rO then .val (.ptr nx 0) (h.set (some (.it s 0 nx)) rO nx) (Nat.succ nx) else .bad
   | _=>.bad
 | _=>.bad
def QV (E:Tr CV) (h:Tr CB) (nx:Nat) (x:Operand):Ro:=match sU E x with
 | some (.ptr t o)=>bif Nat.beq o 0 then (match h.get t with
   | some (.it l pos _)=>match Ek l pos with
     | some (.int .u8 n)=>bif uO 0 n && (not (uO 128 n) && Nat.ble (Nat.succ nx) rO) then .val (.tup (.cons (.bool true) (.cons (.int .i64 pos) (.cons (.int .i32 n) .nil)))) (h.set (some (.it l (Nat.succ pos) nx)) rO t) (Nat.succ nx) else .bad
     | none=>bif Nat.ble (sG l) pos then .val (.tup (.cons (.bool false) .nil)) h nx else .bad
     | _=>.bad
   | _=>.bad) else .bad
 | _=>.bad
def mv (P:Program) (E:Tr CV) (h:Tr CB) (nx:Nat):Op→Ro
 | .makeMap T none=>WH P E h nx T
 | .lookup T x i c=>mv1 P E h nx T x i c
 | .mapUpdate T x i y=>mv2 P E h nx T x i y
 | .mapEntry T x i=>mv3 P E h nx T x i
 | .entryStore T x s y=>mv4 P E h nx T x s y
 | .buildSlice T n ⟨parts⟩=>mv5 P E h nx T n parts
 | .convert s t x=>mvC P E h nx s t x
 | .load T x=>mv7 P E h nx T x
 | .index T x i=>mv8 P E h nx T x i
 | .slice T x lo hi none=>mv9 P E h nx T x lo hi
 | .call ⟨.builtin .unsafeSliceData,⟨[x]⟩,_⟩=>QQ E h nx x
 | .call ⟨.builtin .unsafeString,⟨[x,y]⟩,⟨[pt,it]⟩⟩=>QR P E h nx x y pt it
 | .call ⟨.value (.func g),⟨[x]⟩,_⟩=>QT P E h nx g x
 | .range T x=>QU P E h nx T x
 | .next x true=>QV E h nx x
 | _=>.bad
section
variable {P:Program} {nx n:Nat} {ρ:Pl} {Φ:Imm→Prop} {w0:Bas Φ} {w:World} {E:Tr CV} {h:Tr CB} {a:Act}
theorem Ot {κ:Type} [DecidableEq κ] [OneVal κ] {t:Nat} {b b':CB} {l:List (κ×Int)} (hm:Mem ρ w0 h nx w) (hfit:nx≤rO) (ht:h.get t=some b) (hst:Og b'=nx) (hb:DB nx ρ (ρ t).2 b' (sP l)) :
 Mem ρ w0 (h.set (some b') rO t) (nx+1) { w with heap:=w.heap.setIfInBounds (ρ t).1 (sP l) }∧Lf ρ h nx w ρ (h.set (some b') rO t) { w with heap:=w.heap.setIfInBounds (ρ t).1 (sP l) }:=
 hm.write hfit hst ht HY (by simp [hm.lt ht]) hb
variable {κ:Type} [DecidableEq κ] [OneVal κ] {T kt:TypeId}
theorem Lh {r:Nat} {xs:List (κ×Int)} {k:κ} {v:Int} (hT:MapT P T kt κ) (hb:w.heap[r]?=some (sP xs)):(Instr.mapUpdate T (.map (some r)) (OneVal.val k) (.int .i64 v)).run P w =
 .ok () { w with heap:=w.heap.setIfInBounds r (sP (Kk xs k v)) }:=by
 obtain ⟨⟨et,hu,hz⟩,hk⟩:=hT
 simp only [Instr.mapUpdate,bE,aS hu,aO,mC (P:=P) hb,bJ,hk.check,hk.look]
 cases hm:vB xs k with
 | none =>
   rw [(Ds xs k).1 hm,Xx xs k v hm]
   simp only [Option.bind_none,mB (P:=P) _ hb,aO]
   congr 3
   simp [sP,zE,sA]
 | some u =>
   obtain ⟨i,h1,h2,h3⟩:=Lu xs k hm
   rw [h1,h3]
   have hg:(sA 0 xs)[i]?=some { key:=OneVal.val k,val:=.int .i64 u,born:=0+i }:=by rw [uX,h2];rfl
   simp only [iI,eU,mO,hg,gN,bE,hk.stays,aO,mB (P:=P) _ hb]
   congr 3
   simp only [sP,aG,Fb xs i k u v h2]
   congr 1
   apply qI
   simp only [Array.toList_modify]
   apply fG
   intro j
   simp only [pO,uX]
   by_cases hij:i=j
   · subst hij;simp [h2]
   simp [hij]
theorem Ou {r:Nat} {xs:List (κ×Int)} {k:κ} (hT:MapT P T kt κ) (hb:w.heap[r]?=some (sP xs)) (hk0:vB xs k=none):(Instr.mapEntry T (.map (some r)) (OneVal.val k)).run P w =
 .ok (.tuple #[.int .i64 0,.int .i64 xs.length]) { w with heap:=w.heap.setIfInBounds r (sP (xs++[(k,0)])) }:=by
 obtain ⟨⟨et,hu,hz⟩,hk⟩:=hT
 simp only [Instr.mapEntry,bE,aS hu,aO,mC (P:=P) hb,bJ,hk.check,hk.look]
 rw [(Ds xs k).1 hk0]
 simp only [Option.bind_none,bE,hz,aO,mB (P:=P) _ hb,bJ,goInt]
 congr 3
 simp [sP,zE,sA]
theorem Jt {r i:Nat} {xs:List (κ×Int)} {v:Int} (hb:w.heap[r]?=some (sP xs)) (hi:i<xs.length):(Instr.entryStore T (.map (some r)) (.int .i64 i) (.int .i64 v)).run P w =
 .ok () { w with heap:=w.heap.setIfInBounds r (sP (xs.modify i fun p=>(p.1,v))) }:=by
 obtain ⟨k,u,hku⟩:∃ k u,xs[i]?=some (k,u):=⟨_,_,aC hi⟩
 have hfind:(sA 0 xs).toArray.findIdx? (fun e=>(e.born:Int) == (i:Int))=some i:=by
  rw [List.findIdx?_toArray,qJ]
  have hl:(sA 0 xs).length=xs.length:=Hy xs 0
  refine ⟨by omega,?_,?_⟩
  · have:=uX xs 0 i
    rw [aC (show i<(sA 0 xs).length by omega),hku] at this
    simp at this
    simp [this]
  intro j hj
  have:=uX xs 0 j
  rw [aC (show j<(sA 0 xs).length by omega),aC (show j<xs.length by omega)] at this
  simp at this
  simp [this];omega
 simp only [Instr.entryStore,bE,mC (P:=P) hb,aO,asInt,asIntOf,bJ]
 rw [hfind]
 simp only [mB (P:=P) _ hb,aO,bJ]
 congr 3
 have h3:=Fb xs i k u v hku 0
 have h4:xs.modify i (fun p=>(p.1,v))=xs.set i (k,v):=by
  apply fG
  intro j
  rw [pO,eH]
  by_cases hij:i=j
  · subst hij;obtain ⟨_,hg⟩:=aV.1 hku;simp [hi,hg]
  simp [hij]
 rw [h4]
 simp only [sP,h3,aG]
 simp
theorem Xe {κ:Type} [DecidableEq κ] [OneVal κ] {eq:κ→κ→Bool} (he:∀ a b,eq a b=decide (a=b)) {T kt t:Nat} {x i:Operand} {c:Bool} {l:List (κ×Int)} {b:CB} {k:κ} {kc:CV} (hT:MapT P T kt κ) (hs:Slots ρ E nx n a) (hm:Mem ρ w0 h nx w) (hfit:nx≤rO)
 (hx:sU E x=some (.mp t)) (hi:sU E i=some kc) (hk:∀ v,Kn nx ρ kc v→v=OneVal.val k) (ht:h.get t=some b) (hb:∀ o,DB nx ρ (ρ t).2 b o→o=sP l):Wd P (.lookup T x i c) ρ w0 h nx a w (.val (NZ c (Le eq k l)) h nx):=by
 obtain ⟨v1,e1,k1⟩:=rM hs hx
 obtain ⟨v2,e2,k2⟩:=rM hs hi
 have:=Jd k1
 subst this
 have:=hk _ k2
 subst this
 obtain ⟨_,_,_,o,h3,h4⟩:=hm.own t _ ht
 have:=hb o h4
 subst this
 rw [Gw he]
 refine ⟨aH _,_,w,ρ,dD _ _,FR,hm,hfit,fR,fun d ty pos after g=>?_⟩
 simp only [execOp,tH e1,tH e2,bE,Bm hT h3 c,aO,bJ]
theorem GF {κ:Type} [DecidableEq κ] [OneVal κ] {eq:κ→κ→Bool} (he:∀ a b,eq a b=decide (a=b)) {T kt t:Nat} {x i y:Operand} {l:List (κ×Int)} {b b':CB} {k:κ} {kc:CV} {v:Int} (hT:MapT P T kt κ) (hs:Slots ρ E nx n a) (hm:Mem ρ w0 h nx w) (hfit:Nat.ble (Nat.succ nx) rO=true)
 (hx:sU E x=some (.mp t)) (hi:sU E i=some kc) (hy:sU E y=some (.int .i64 v)) (hk:∀ v,Kn nx ρ kc v→v=OneVal.val k) (ht:h.get t=some b) (hb:∀ o,DB nx ρ (ρ t).2 b o→o=sP l) (hst:Og b'=nx) (hb':DB nx ρ (ρ t).2 b' (sP (FQ eq k v l))) :
 Wd P (.mapUpdate T x i y) ρ w0 h nx a w (.unit (h.set (some b') rO t) (Nat.succ nx)):=by
 obtain ⟨v1,e1,k1⟩:=rM hs hx
 obtain ⟨v2,e2,k2⟩:=rM hs hi
 obtain ⟨v3,e3,k3⟩:=rM hs hy
 have:=Jd k1
 subst this
 have:=hk _ k2
 subst this
 have:=fY.1 k3.2
 subst this
 obtain ⟨_,_,_,o,h3,h4⟩:=hm.own t _ ht
 have:=hb o h4
 subst this
 have hf:=rU hfit
 obtain ⟨g1,g2⟩:=Ot hm rG ht hst hb'
 refine ⟨cY _,_,ρ,dD _ _,g1,hf,g2,fun ty pos after g=>?_⟩
 rw [JX he]
 simp only [execOp,tH e1,tH e2,tH e3,bE,Lh hT h3,aO,bJ]
theorem GG {κ:Type} [DecidableEq κ] [OneVal κ] {eq:κ→κ→Bool} (he:∀ a b,eq a b=decide (a=b)) {T kt t:Nat} {x i:Operand} {l:List (κ×Int)} {b b':CB} {k:κ} {kc:CV} (hT:MapT P T kt κ) (hs:Slots ρ E nx n a) (hm:Mem ρ w0 h nx w) (hfit:Nat.ble (Nat.succ nx) rO=true)
 (hx:sU E x=some (.mp t)) (hi:sU E i=some kc) (h0:Le eq k l=none) (hk:∀ v,Kn nx ρ kc v→v=OneVal.val k) (ht:h.get t=some b) (hb:∀ o,DB nx ρ (ρ t).2 b o→o=sP l) (hst:Og b'=nx) (hb':DB nx ρ (ρ t).2 b' (sP (l++[(k,0)]))) :
 Wd P (.mapEntry T x i) ρ w0 h nx a w (.val (.tup (.cons (.int .i64 0) (.cons (.int .i64 l.length) .nil))) (h.set (some b') rO t) (Nat.succ nx)):=by
 obtain ⟨v1,e1,k1⟩:=rM hs hx
 obtain ⟨v2,e2,k2⟩:=rM hs hi
 have:=Jd k1
 subst this
 have:=hk _ k2
 subst this
 obtain ⟨_,_,_,o,h3,h4⟩:=hm.own t _ ht
 have:=hb o h4
 subst this
 have hf:=rU hfit
 rw [Gw he] at h0
 obtain ⟨g1,g2⟩:=Ot hm rG ht hst hb'
 refine ⟨cY _,.tuple #[.int .i64 0,.int .i64 l.length],_,ρ,dD _ _,⟨⟨trivial,trivial,trivial⟩,pE.2 ⟨_,kC.2 ⟨_,_,rfl,rfl,kC.2 ⟨_,_,rfl,rfl,rfl⟩⟩,rfl⟩⟩,g1,hf,g2,fun d ty pos after g=>?_⟩
 simp only [execOp,tH e1,tH e2,bE,Ou hT h3 h0,aO,bJ]
theorem GH {κ:Type} [DecidableEq κ] [OneVal κ] {T t:Nat} {x s y:Operand} {l:List (κ×Int)} {b b':CB} {m v:Int} (hs:Slots ρ E nx n a) (hm:Mem ρ w0 h nx w) (hfit:Nat.ble (Nat.succ nx) rO=true)
 (hx:sU E x=some (.mp t)) (hi:sU E s=some (.int .i64 m)) (hy:sU E y=some (.int .i64 v)) (h0:0≤m) (hl:Nat.ble (Nat.succ m.toNat) l.length=true) (ht:h.get t=some b) (hb:∀ o,DB nx ρ (ρ t).2 b o→o=sP l) (hst:Og b'=nx) (hb':DB nx ρ (ρ t).2 b' (sP (AK (fun p=>(p.1,v)) l m.toNat))) :
 Wd P (.entryStore T x s y) ρ w0 h nx a w (.unit (h.set (some b') rO t) (Nat.succ nx)):=by
 obtain ⟨v1,e1,k1⟩:=rM hs hx
 obtain ⟨v2,e2,k2⟩:=rM hs hi
 obtain ⟨v3,e3,k3⟩:=rM hs hy
 have:=Jd k1
 subst this
 have:=fY.1 k2.2
 subst this
 have:=fY.1 k3.2
 subst this
 obtain ⟨_,_,_,o,h3,h4⟩:=hm.own t _ ht
 have:=hb o h4
 subst this
 have hf:=rU hfit
 obtain ⟨g1,g2⟩:=Ot hm rG ht hst hb'
 refine ⟨cY _,_,ρ,dD _ _,g1,hf,g2,fun ty pos after g=>?_⟩
 rw [Xd]
 have hr:=Jt (P:=P) (T:=T) (w:=w) (v:=v) h3 (rU hl)
 rw [cL h0] at hr
 simp only [execOp,tH e1,tH e2,tH e3,bE,hr,aO,bJ]
theorem LD {ρ':Pl} {s:Nat} (h:ρ' nx=(w.heap.size,s)):DV ρ' (.mp nx) (.map (some w.heap.size)):=by rw [DV.mp,h]
theorem run_mark {t e:TypeId} {b o n c:Nat} {cs:Array Value} {ty:TypeId} (ht:P.underlying t=some (.slice e)) (he:P.underlying e=some (.int .u8)) (hb:w.heap[b]?=some (.cells cs ty (0,0))) :
 (convert t t (.slice (some ⟨b,o,none⟩) n c)).run P w=.ok (.slice (some ⟨b,o,none⟩) n c) (w.freeze ⟨b,cs.size,none⟩ 1):=by
 have hsh:w.shape? b=some (ty,cs.size):=by unfold World.shape?;rw [hb]
 simp [convert,aS ht,aS he,markStringish,hsh]
theorem freeze_upd {b k:Nat}:Upd (·=b) w (w.freeze ⟨b,k,none⟩ 1):=⟨rfl,rfl,rfl,by simp [World.freeze],fun j _ hj=>by
 have hj':b≠j:=fun e=>hj e.symm
 simp [World.freeze,jV,hj']⟩
theorem Ru {b k:Nat} (hk:k≠0):Upd (·=b) w (w.freeze ⟨b,0,none⟩ k):=by
 have e:∃ f,w.freeze ⟨b,0,none⟩ k={ w with heap:=w.heap.modify b f }:=⟨_,by unfold World.freeze;simp only [hk,eP];rfl⟩
 obtain ⟨f,e⟩:=e
 rw [e]
 exact ⟨rfl,rfl,rfl,by simp,fun j _ hj=>by
  have hj':b≠j:=fun e=>hj e.symm
  simp [jV,hj']⟩
theorem freeze_at {b k:Nat} {cs:Array Value} {ty:TypeId} (hb:w.heap[b]?=some (.cells cs ty (0,0))):(w.freeze ⟨b,k,none⟩ 1).heap[b]?=some (.cells cs ty (k,k+1)):=by
 simp [World.freeze,jV,hb]
theorem NI {a b:ByteArray} (h:a.data=b.data):a=b:=by cases a;cases b;exact congrArg _ h
theorem Uk (l:List UInt8) (i j:Nat):(ByteArray.mk l.toArray).extract i j=⟨((l.drop i).take (j - i)).toArray⟩:=by
 apply NI
 rw [ByteArray.data_extract]
 simp [List.extract_eq_take_drop]
theorem Rv {P:Program} {e:Env} {H:Hp} {G:Imm} {ty T:TypeId} {x:Operand} {lo hi:Option Operand} {s:ByteArray} {l h:Nat} (hT:P.underlying T=some .string) (hx:e.ev x=some (.string s))
 (hl:MU e 0 lo l) (hh:MU e s.size hi h) (hlh:l≤h) (hhs:h≤s.size):Qy P (.slice T x lo hi none) ty e H G (.string (s.extract l h)):=fun ac w _ _ _ _ hk=>by
 have e1:(h:Int)≤s.size:=rG
 have e2:(l:Int)≤h:=rG
 cases lo with
 | none =>
   have hl:l=0:=hl
   subst hl
   cases hi with
   | none=>have hh:h=s.size:=hh;subst hh;simp [execOp,Instr.sliceAt,Instr.slice,hk.eval hx,aS hT,Instr.sliceBounds,Instr.sliceBound,asIntOf]
   | some y =>
     obtain ⟨k,hy⟩:=hh
     simp [execOp,Instr.sliceAt,Instr.slice,hk.eval hx,hk.eval hy,aS hT,Instr.sliceBounds,Instr.sliceBound,asIntOf,e1,hhs]
 | some z =>
   obtain ⟨kz,hz⟩:=hl
   cases hi with
   | none =>
     have hh:h=s.size:=hh
     subst hh
     simp [execOp,Instr.sliceAt,Instr.slice,hk.eval hx,hk.eval hz,aS hT,Instr.sliceBounds,Instr.sliceBound,asIntOf,e2,hlh]
   | some y =>
     obtain ⟨k,hy⟩:=hh
     simp [execOp,Instr.sliceAt,Instr.slice,hk.eval hx,hk.eval hz,hk.eval hy,aS hT,Instr.sliceBounds,Instr.sliceBound,asIntOf,e1,e2,hlh,hhs]
theorem Xf {l:CV} {vs:List Value} (hk:KL nx ρ l vs):GB l=true→∃ bs:List UInt8,vs=bs.map fun b=>Value.int .u8 b.toNat:=by
 refine kT (motive:=fun l vs=>GB l=true→∃ bs:List UInt8,vs=bs.map fun b=>Value.int .u8 b.toNat) (fun _=>⟨[],rfl⟩) ?_ hk
 intro a b v vs hv _ ih h
 have h':(QM a && GB b)=true:=h
 rw [aB] at h'
 obtain ⟨bs,rfl⟩:=ih h'.2
 cases a <;> first | (exact absurd (show false=true from h'.1) rW) | skip
 rename_i k n
 cases k <;> first | (exact absurd (show false=true from h'.1) rW) | skip
 have h2:(uO 0 n && not (uO 256 n))=true:=h'.1
 simp only [aB,dV,sZ,aQ,dH] at h2
 refine ⟨UInt8.ofNat n.toNat :: bs,?_⟩
 rw [bX,fY.1 hv.2]
 have h3:((UInt8.ofNat n.toNat).toNat:Int)=n:=by
  rw [UInt8.toNat_ofNat']
  have:n.toNat % 2 ^ 8=n.toNat:=gD rG
  omega
 rw [h3]
theorem GI:∀ (bs:List UInt8),((bs.map fun b=>(b.toNat:Int)).foldl (fun r n=>ByteArray.push r (UInt8.ofNat n.toNat)) ByteArray.empty)=⟨bs.toArray⟩:=by
 have key:∀ (bs:List UInt8) (s:List UInt8),((bs.map fun b=>(b.toNat:Int)).foldl (fun r n=>ByteArray.push r (UInt8.ofNat n.toNat)) ⟨s.toArray⟩)=⟨(s++bs).toArray⟩:=by
  intro bs
  induction bs with
  | nil=>intro s;simp
  | cons b bs ih =>
    intro s
    rw [bX,List.foldl_cons]
    have e:ByteArray.push ⟨s.toArray⟩ (UInt8.ofNat ((b.toNat:Int)).toNat)=⟨(s++[b]).toArray⟩:=by
     simp [ByteArray.push]
    rw [e,ih,dJ];rfl
 intro bs
 exact key bs []
theorem QW {op:Op} (hs:Slots ρ E nx n a) (hm:Mem ρ w0 h nx w) (hfit:nx≤rO):Wd P op ρ w0 h nx a w (mv P E h nx op):=by
 unfold mv WH mv1 mv2 mv3 mv4 mv5 mvC mv6 QN QO QP mv7 mv8 mv9 QQ QR QT QU QV
 split
 · rename_i T
   refine rN (Wd _ _ _ _ _ _ _ _) (fun hb=>?_) fun _=>trivial
   have hr:∀ (d:Option Tmp) (ty:TypeId) (pos:String) (after:Array Edge) (g:Option (Nat×Bool)),(execOp a.eval ⟨d,.makeMap T none,ty,pos,after,g⟩).run P w=.ok (.value (.map (some w.heap.size))) (w.alloc (sP ([]:List (Int×Int)))):=fun d ty pos after g=>by
    simp only [execOp,jP,bE,xW,aO,bJ];rfl
   refine rN (Wd _ _ _ _ _ _ _ _) (fun _=>?_) fun _=>?_
   · exact oM (s:=0) hm hb rfl (tD w _) (tI w _) (sK w _) rfl (fun ρ' h=>LD h) (cK _) hr
   refine rN (Wd _ _ _ _ _ _ _ _) (fun _=>?_) fun _=>trivial
   exact oM (s:=0) hm hb rfl (tD w _) (tI w _) (sK w _) rfl (fun ρ' h=>LD h) (cK _) hr
 · rename_i T x i c
   split
   · rename_i t hx
     split
     · rename_i k hi
       split
       · rename_i l st ht
         split
         · rename_i m hk
           refine rN (Wd _ _ _ _ _ _ _ _) (fun hT=>?_) fun _=>trivial
           obtain ⟨kt,hT⟩:=Ol hT
           exact Xe uR hT hs hm hfit hx hi (fun v hv=>Gz hk hv) ht fun o ho=>ho
         trivial
       · rename_i l st ht
         split
         · rename_i m hk
           refine rN (Wd _ _ _ _ _ _ _ _) (fun hT=>?_) fun _=>trivial
           obtain ⟨kt,hT⟩:=Om hT
           exact Xe Ok hT hs hm hfit hx hi (fun v hv=>Ha hk hv) ht fun o ho=>ho
         trivial
       trivial
     trivial
   trivial
 · rename_i T x i y
   split
   · rename_i t hx
     split
     · rename_i k hi
       split
       · rename_i v hy
         refine rN (Wd _ _ _ _ _ _ _ _) (fun hb=>?_) fun _=>trivial
         split
         · rename_i l st ht
           split
           · rename_i m hk
             refine rN (Wd _ _ _ _ _ _ _ _) (fun hT=>?_) fun _=>trivial
             obtain ⟨kt,hT⟩:=Ol hT
             exact GF uR hT hs hm hb hx hi hy (fun v hv=>Gz hk hv) ht (fun o ho=>ho) rfl rfl
           trivial
         · rename_i l st ht
           split
           · rename_i m hk
             refine rN (Wd _ _ _ _ _ _ _ _) (fun hT=>?_) fun _=>trivial
             obtain ⟨kt,hT⟩:=Om hT
             exact GF Ok hT hs hm hb hx hi hy (fun v hv=>Ha hk hv) ht (fun o ho=>ho) rfl rfl
           trivial
         trivial
       trivial
     trivial
   trivial
 · rename_i T x i
   split
   · rename_i t hx
     split
     · rename_i k hi
       refine rN (Wd _ _ _ _ _ _ _ _) (fun hb=>?_) fun _=>trivial
       split
       · rename_i l st ht
         split
         · rename_i m hk
           refine rN (Wd _ _ _ _ _ _ _ _) (fun hT=>?_) fun _=>trivial
           obtain ⟨kt,hT⟩:=Om hT
           split
           · rename_i h0
             exact GG Ok hT hs hm hb hx hi h0 (fun v hv=>Ha hk hv) ht (fun o ho=>ho) rfl rfl
           trivial
         trivial
       · rename_i l st ht
         split
         · rename_i m hk
           refine rN (Wd _ _ _ _ _ _ _ _) (fun hT=>?_) fun _=>trivial
           obtain ⟨kt,hT⟩:=Ol hT
           split
           · rename_i h0
             exact GG uR hT hs hm hb hx hi h0 (fun v hv=>Gz hk hv) ht (fun o ho=>ho) rfl rfl
           trivial
         trivial
       trivial
     trivial
   trivial
 · rename_i T x s y
   split
   · rename_i t hx
     split
     · rename_i m hi
       split
       · rename_i v hy
         refine rN (Wd _ _ _ _ _ _ _ _) (fun hb=>?_) fun _=>trivial
         rw [aB,sZ,aQ] at hb
         split
         · rename_i l st ht
           refine rN (Wd _ _ _ _ _ _ _ _) (fun hl=>?_) fun _=>trivial
           exact GH hs hm hb.1 hx hi hy hb.2 hl ht (fun o ho=>ho) rfl rfl
         · rename_i l st ht
           refine rN (Wd _ _ _ _ _ _ _ _) (fun hl=>?_) fun _=>trivial
           exact GH hs hm hb.1 hx hi hy hb.2 hl ht (fun o ho=>ho) rfl rfl
         trivial
       trivial
     trivial
   trivial
 · rename_i T N parts
   refine rN (Wd _ _ _ _ _ _ _ _) (fun hb=>?_) fun _=>trivial
   rw [aB] at hb
   have:=aD hb.1
   subst this
   split
   · split
     · rename_i e sz hT
       have hT':=uG hT
       refine oM (s:=0) hm hb.2 rfl (tD w _) (tI w _) (sK w _) (v:=.slice (some ⟨w.heap.size,0,none⟩) 0 0) (uT mV e) (fun ρ' h=>jG.2 ⟨by rw [h],by omega,by omega,by omega⟩) (cK _) fun d ty pos after g=>?_
       simp [execOp,Instr.buildSlice,aS hT'.1,run_sizeOf w hT'.2,Instr.fill,newRow,show Array.range 0=#[] from mX sI]
     trivial
   trivial
 · rename_i s t x
   split
   · rename_i ht
     split
     · rename_i e hs1
       split
       · rename_i he
         have hrun:=fun (a':Option Addr) (l c:Nat)=>run_convert_bytes_string (P:=P) w s t e a' l c hs1 he ht
         split
         · rename_i hx
           obtain ⟨v,e1,k1⟩:=rM hs hx
           have e2:=mL.1 k1.2
           subst e2
           refine ⟨aH _,.string ByteArray.empty,w,ρ,dD _ _,⟨trivial,[],[],rfl,rfl,rfl⟩,hm,hfit,fR,fun d ty pos after g=>?_⟩
           simp only [execOp,tH e1,bE,hrun,Conv.bytesToString,bJ,aO]
         · rename_i b o N sz c hx
           split
           · rename_i l ty op st hbk
             refine rN (Wd _ _ _ _ _ _ _ _) (fun hb=>?_) fun _=>trivial
             rw [aB] at hb
             obtain ⟨v,e1,k1⟩:=rM hs hx
             obtain ⟨C,hv⟩:=zU k1
             subst hv
             obtain ⟨_,_,_,ob,h3,vs,junk,kl,rfl,hlen,hj⟩:=hm.own b _ hbk
             have hl:=aD hb.1
             have kk:=vV kl hl
             obtain ⟨bs,hbs⟩:=Xf kk hb.2
             have hln:((vs.drop o).take N).length=N:=by rw [←sJ kk];exact hl
             have hld:(loadCells ⟨(ρ b).1,o,none⟩ N).run P w=.ok ((bs.map fun b=>(b.toNat:Int)).map (Value.int .u8)).toArray w:=by
              have:=lF (P:=P) w ⟨(ρ b).1,o,none⟩ ((vs.drop o).take N) (fun j v hj=>by
               rw [add_lit,cell_of_block h3]
               rw [gP] at hj
               split at hj
               · rw [eR] at hj
                 rw [aZ (aV.1 hj).1];exact hj
               cases hj)
              rw [hln] at this
              rw [this,hbs,List.map_map];rfl
             refine ⟨aH _,.string ⟨bs.toArray⟩,w,ρ,dD _ _,⟨kk.1,(vs.drop o).take N,bs,kk.2,hbs,rfl⟩,hm,hfit,fR,fun d ty pos after g=>?_⟩
             simp only [execOp,tH e1,bE,hrun,run_bytesToString w _ _ _ _ hld,aO,bJ]
             rw [GI]
           trivial
         trivial
       trivial
     trivial
   · rename_i hd
     split
     · rename_i u hs1
       split
       · rename_i k hk
         refine rN (Wd _ _ _ _ _ _ _ _) (fun _=>trivial) fun h0=>?_
         split
         · rename_i tb o hx
           split
           · rename_i l ty op st hbk
             refine rN (Wd _ _ _ _ _ _ _ _) (fun hb=>?_) fun _=>trivial
             have hb:=rU hb
             obtain ⟨v,e1,k1⟩:=rM hs hx
             have e3:=lK.1 k1.2
             subst e3
             obtain ⟨_,_,_,ob,h3,vs,junk,kl,rfl,hlen,hj⟩:=hm.own tb _ hbk
             have hl:=Cz kl
             have hsh:w.shape? (ρ tb).1=some (ty,(vs++junk).toArray.size):=by unfold World.shape?;rw [h3]
             obtain ⟨j,hj1,hj2⟩:=fQ.1 (Bl hk)
             have hj0:j.size≠0:=by rw [hj2];exact fun e=>by subst e;simp at h0
             refine ⟨aH _,_,w,ρ,dD _ _,k1,hm,hfit,fR,fun d ty' pos after g=>?_⟩
             simp only [execOp,tH e1,bE,Lib.run_to_unsafe w ⟨(ρ tb).1,o,none⟩ hs1 hd hj1 hj0 hsh (by simp;omega),aO,bJ]
           trivial
         trivial
       trivial
     trivial
   · rename_i u hd
     split
     · rename_i hs1
       split
       · rename_i j hj1
         split
         · rename_i tb o hx
           split
           · rename_i l ty st hbk
             refine rN (Wd _ _ _ _ _ _ _ _) (fun hb=>?_) fun _=>trivial
             obtain ⟨v,e1,k1⟩:=rM hs hx
             have e3:=lK.1 k1.2
             subst e3
             obtain ⟨_,_,_,ob,h3,vs,junk,kl,rfl,hlen,hj⟩:=hm.own tb _ hbk
             have hj0:=hj rfl
             subst hj0
             have hl:=Cz kl
             have hsh:w.shape? (ρ tb).1=some (ty,l.n):=by unfold World.shape?;rw [h3];simp [hl]
             refine ⟨aH _,_,w,ρ,dD _ _,k1,hm,hfit,fR,fun d ty' pos after g=>?_⟩
             simp only [execOp,tH e1,bE,Lib.run_from_unsafe w ⟨(ρ tb).1,o,none⟩ hs1 hd hj1 hsh hb,aO,bJ]
           trivial
         trivial
       trivial
     trivial
   split
   · rename_i b o N sz c hx
     split
     · rename_i e ht
       split
       · rename_i he
         refine rN (Wd _ _ _ _ _ _ _ _) (fun hb=>?_) fun _=>trivial
         rw [aB] at hb
         have:=aD hb.1
         subst this
         have hf:=rU hb.2
         split
         · rename_i l ty st hbk
           obtain ⟨v,e1,k1⟩:=rM hs hx
           obtain ⟨_,_,_,ob,h3,vs,junk,kl,rfl,hlen,hj⟩:=hm.own b _ hbk
           have hj0:=hj rfl
           subst hj0
           rw [fN] at h3
           obtain ⟨C,hv⟩:=zU k1
           subst hv
           obtain ⟨m2,o2⟩:=hm.write (b':=.ro l ty nx) rG rfl hbk freeze_upd (freeze_at (k:=vs.toArray.size) h3) ⟨vs,_,kl,rfl⟩
           refine ⟨cY _,_,_,ρ,dD _ _,⟨k1.1.mono (cY _) _,k1.2⟩,m2,hf,o2,fun d ty pos after g=>?_⟩
           simp only [execOp,tH e1,bE,run_mark ht he h3,aO,bJ]
         trivial
       trivial
     trivial
   trivial
 · rename_i T x
   split
   · rename_i t o hx
     split
     · rename_i l ty st ht
       refine rN (Wd _ _ _ _ _ _ _ _) (fun h1=>?_) fun _=>trivial
       split
       · rename_i c hc
         obtain ⟨v,e1,k1⟩:=rM hs hx
         have e3:=lK.1 k1.2
         subst e3
         obtain ⟨_,_,_,ob,h3,vs,fz,kl,rfl⟩:=hm.own t _ ht
         obtain ⟨u,e2,k3⟩:=Wy kl hc
         refine ⟨aH _,u,w,ρ,dD _ _,k3,hm,hfit,fR,fun d ty pos after g=>?_⟩
         have hc:w.cell? ⟨(ρ t).1,o,none⟩=some u:=by rw [cell_of_block h3];simpa using e2
         simp [execOp,tH e1,vC h1 hc]
       trivial
     trivial
   trivial
 · rename_i T x i
   split
   · rename_i s hx
     split
     · rename_i hT
       split
       · rename_i k m hi
         refine rN (Wd _ _ _ _ _ _ _ _) (fun h1=>?_) fun _=>trivial
         rw [sZ,aQ] at h1
         split
         · rename_i c hc
           obtain ⟨v,e1,k1⟩:=rM hs hx
           obtain ⟨bs,rfl,k2⟩:=De k1
           obtain ⟨v2,e2,k3⟩:=rM hs hi
           have e3:=fY.1 k3.2
           subst e3
           obtain ⟨u,e4,k4⟩:=Ae k2 hc
           refine ⟨aH _,u,w,ρ,dD _ _,k4,hm,hfit,fR,fun d ty pos after g=>?_⟩
           have e5:∃ b,bs[m.toNat]?=some b∧u=.int .u8 b.toNat:=by
            rw [cF] at e4
            cases hb:bs[m.toNat]? with
            | none=>rw [hb] at e4;cases e4
            | some b=>rw [hb] at e4;cases e4;exact ⟨b,rfl,rfl⟩
           obtain ⟨b,e6,rfl⟩:=e5
           have e7:(ByteArray.mk bs.toArray)[m.toNat]?=some b:=by
            obtain ⟨hl,hg⟩:=aV.1 e6
            have hs':m.toNat<(ByteArray.mk bs.toArray).size:=by show m.toNat<bs.toArray.size;simpa using hl
            rw [getElem?_pos (ByteArray.mk bs.toArray) m.toNat hs']
            congr 1
           simp [execOp,tH e1,tH e2,Instr.index,asIntOf,aS hT,h1,e7]
         trivial
       trivial
     trivial
   trivial
 · rename_i T x lo hi
   split
   · rename_i t o hx
     split
     · split
       · split
         · rename_i N E' sz hT
           obtain ⟨hu,hs'⟩:=Em hT
           split
           · rename_i l ty op st ht
             refine rN (Wd _ _ _ _ _ _ _ _) (fun h1=>?_) fun _=>trivial
             rw [aB] at h1
             have h2:o+N*sz≤l.n:=rU h1.1
             have h3:=rU h1.2
             obtain ⟨v,e1,k1⟩:=rM hs hx
             have e3:=lK.1 k1.2
             subst e3
             obtain ⟨_,_,_,ob,_,vs,junk,kl,_,hsz,_⟩:=hm.own t _ ht
             have hl:=Cz kl
             refine ⟨aH _,_,w,ρ,dD _ _,⟨k1.1,jG.2 ⟨rfl,by omega,aH _,by simp only [maxLen];omega⟩⟩,hm,hfit,fR,fun d ty pos after g=>?_⟩
             have hr:=run_sizeOf (P:=P) w hs'
             simp [execOp,Instr.sliceAt,tH e1,aS hu,Instr.sureAddr,Instr.sliceBounds,hr,add_lit]
           trivial
         trivial
       trivial
     trivial
   · rename_i s hx
     split
     · rename_i hT
       split
       · rename_i l hl
         split
         · rename_i hh hhi
           refine rN (Wd _ _ _ _ _ _ _ _) (fun h1=>?_) fun _=>trivial
           simp only [aB,sZ,aQ] at h1
           obtain ⟨h1,h2,h3⟩:=h1
           obtain ⟨v,e1,k1⟩:=rM hs hx
           obtain ⟨bs,rfl,k2⟩:=De k1
           have e2:=sJ k2
           rw [bS] at e2
           have hsz:(ByteArray.mk bs.toArray).size=bs.length:=by show bs.toArray.size=_;simp
           have hhi':=Jf hs hhi rG
           rw [e2,←hsz] at hhi'
           have hq:=fun ty=>Rv (P:=P) (H:=[]) (G:=fun _=>none) (ty:=ty) hT e1 (Je hs hl h1) hhi' rG rG
           refine ⟨aH _,.string ((ByteArray.mk bs.toArray).extract l.toNat hh.toNat),w,ρ,dD _ _,?_,hm,hfit,fR,fun d ty pos after g=>hq ty a w d pos after g (lookN a w)⟩
           have k3:=Cy (hh.toNat - l.toNat) (Cx l.toNat k2)
           rw [Uk]
           refine ⟨k3.1,_,(bs.drop l.toNat).take (hh.toNat - l.toNat),k3.2,by simp [List.map_take,List.map_drop],rfl⟩
         trivial
       trivial
     trivial
   trivial
 · rename_i x ts
   split
   · rename_i tb o N sz c hx
     refine rN (Wd _ _ _ _ _ _ _ _) (fun _=>trivial) fun h0=>?_
     obtain ⟨v,e1,k1⟩:=rM hs hx
     obtain ⟨e2,_⟩:=jG.1 k1.2
     subst e2
     have hc:c≠0:=fun e=>by subst e;simp at h0
     refine ⟨aH _,.pointer (some ⟨(ρ tb).1,o,none⟩),w,ρ,dD _ _,⟨k1.1,rfl⟩,hm,hfit,fR,fun d ty pos after g=>?_⟩
     simp [execOp,resolve,invoke,builtin,tH e1,Lib.run_unsafeSliceData_row _ _ _ _ _ _ hc]
   · rename_i tb o N sz hx
     refine rN (Wd _ _ _ _ _ _ _ _) (fun _=>trivial) fun h0=>?_
     obtain ⟨v,e1,k1⟩:=rM hs hx
     obtain ⟨C,e2,_,e3,_⟩:=mK.1 k1.2
     subst e2
     have hN:N≠0:=fun e=>by subst e;simp at h0
     have hc:C≠0:=rG
     refine ⟨aH _,.pointer (some ⟨(ρ tb).1,o,none⟩),w,ρ,dD _ _,⟨k1.1,rfl⟩,hm,hfit,fR,fun d ty pos after g=>?_⟩
     simp [execOp,resolve,invoke,builtin,tH e1,Lib.run_unsafeSliceData_row _ _ _ _ _ _ hc]
   · rename_i hx
     obtain ⟨v,e1,k1⟩:=rM hs hx
     have e2:=mL.1 k1.2
     subst e2
     refine ⟨aH _,.pointer none,w,ρ,dD _ _,⟨trivial,rfl⟩,hm,hfit,fR,fun d ty pos after g=>?_⟩
     simp [execOp,resolve,invoke,builtin,tH e1,Lib.run_unsafeSliceData_nil]
   trivial
 · rename_i x y pt it
   split
   · rename_i m hy
     obtain ⟨vy,ey,ky⟩:=rM hs hy
     have ey':=fY.1 ky.2
     subst ey'
     split
     · rename_i hx
       refine rN (Wd _ _ _ _ _ _ _ _) (fun h0=>?_) fun _=>trivial
       rw [uR,aQ] at h0
       subst h0
       obtain ⟨v,e1,k1⟩:=rM hs hx
       have e2:=DV.nilp.1 k1.2
       subst e2
       refine ⟨aH _,.string .empty,w,ρ,dD _ _,⟨trivial,[],[],rfl,rfl,rfl⟩,hm,hfit,fR,fun d ty pos after g=>?_⟩
       simp [execOp,resolve,invoke,builtin,tH e1,tH ey,Lib.run_unsafeString_none]
     · rename_i tb o hx
       split
       · rename_i e he
         split
         · rename_i l ty op st hbk
           refine rN (Wd _ _ _ _ _ _ _ _) (fun hb=>?_) fun _=>trivial
           simp only [aB,sZ,aQ] at hb
           obtain ⟨⟨b1,b2,b3⟩,⟨b4,b5⟩,b6,b7,b8⟩:=hb
           have b1:=aD b1
           have b2:=aD b2
           have b3:=aD b3
           have b6:=aD b6
           subst b1 b2
           obtain ⟨v,e1,k1⟩:=rM hs hx
           have e3:=lK.1 k1.2
           subst e3
           obtain ⟨_,_,_,ob,h3,vs,junk,kl,rfl,hlen,hj⟩:=hm.own tb _ hbk
           have kk:=vV kl b6
           obtain ⟨bs,hbs⟩:=Xf kk b7
           rw [jE] at hbs kk
           have hbl:(vs.take m.toNat).length=m.toNat:=by rw [←sJ kk];exact b6
           have hbl2:bs.length=m.toNat:=by rw [hbs,bS] at hbl;exact hbl
           have hle:m.toNat≤vs.length:=by rw [bC] at hbl;omega
           have hsh:w.shape? (ρ tb).1=some (ty,(vs++junk).toArray.size):=by unfold World.shape?;rw [h3]
           have hrun:=Lib.run_unsafeString_row (P:=P) (w:=w) pt it it ty he b3 (ρ tb).1 _ hsh bs (fun e=>by subst e;simp at hbl2;omega) (by simp;omega) rG (fun j x hjx=>by
            rw [add_lit,cell_of_block h3,cO]
            have hjl:j<bs.length:=(aV.1 hjx).1
            have h5:(vs.take m.toNat)[j]?=some (Value.int .u8 x.toNat):=by rw [hbs,cF,hjx];rfl
            rw [gP] at h5
            rw [aR (by omega)] at h5
            rw [aZ rG];exact h5)
           have hnz:bs≠[]:=fun e=>by subst e;simp at hbl2;omega
           obtain ⟨m2,o2⟩:=hm.drop hfit hbk (w':=w.freeze ⟨(ρ tb).1,0,none⟩ bs.length) (Ru (by simpa using hnz))
           refine ⟨aH _,.string ⟨bs.toArray⟩,_,ρ,dD _ _,⟨kk.1,_,bs,kk.2,hbs,rfl⟩,m2,hfit,o2,fun d ty' pos after g=>?_⟩
           have hm':m=((bs.length:Nat):Int):=rG
           rw [hm'] at ey
           have hrun':=fun ty'=>(show (Builtin.unsafeString_ #[pt,it] ty' #[.pointer (some ⟨(ρ tb).1,0,none⟩),.int .i64 bs.length]).run P w=_ from hrun)
           simp [execOp,resolve,invoke,builtin,tH e1,tH ey,hrun']
         trivial
       trivial
     trivial
   trivial
 · rename_i g x ts
   refine rN (Wd _ _ _ _ _ _ _ _) (fun h0=>?_) fun _=>trivial
   obtain ⟨fn,f1,f2,f3,f4,f5⟩:=GD h0
   split
   · rename_i c hx
     obtain ⟨v,e1,k1⟩:=rM hs hx
     refine ⟨aH _,v,w,ρ,dD _ _,k1,hm,hfit,fR,fun d ty pos after g'=>?_⟩
     have hcall:=run_callFunc_extern (P:=P) f1 f2 f3 f4 f5 #[v] w
     rw [Lib.run_noEscape] at hcall
     have hf:a.eval (.func g)=.func (.func g) #[] #[]:=rfl
     simp [execOp,resolve,Deferred.ofValue,invoke,hf,tH e1,hcall]
   trivial
 · rename_i T x
   split
   · rename_i s hx
     split
     · rename_i hT
       refine rN (Wd _ _ _ _ _ _ _ _) (fun hf=>?_) fun _=>trivial
       obtain ⟨v,e1,k1⟩:=rM hs hx
       obtain ⟨bs,rfl,k2⟩:=De k1
       refine oM (s:=0) hm hf rfl (tD w (.stringIter ⟨bs.toArray⟩ 0)) (tI w _) (sK w _) (v:=.pointer (some ⟨w.heap.size,0,none⟩)) ⟨bs,k2,rfl⟩ (fun ρ' h=>by rw [lK,h]) (cK _) fun d ty pos after g=>?_
       simp only [execOp,Instr.range,tH e1,bE,aS hT,aO,bJ]
       rfl
     trivial
   trivial
 · rename_i x
   split
   · rename_i tb o hx
     refine rN (Wd _ _ _ _ _ _ _ _) (fun ho=>?_) fun _=>trivial
     have ho:=aD ho
     subst ho
     obtain ⟨v,e1,k1⟩:=rM hs hx
     have e3:=lK.1 k1.2
     subst e3
     split
     · rename_i l pos st hbk
       obtain ⟨_,_,_,ob,h3,bs,kl,rfl⟩:=hm.own tb _ hbk
       have hlen:=sJ kl
       rw [bS] at hlen
       have hsz:(ByteArray.mk bs.toArray).size=bs.length:=by show bs.toArray.size=_;simp
       have hget:(getObj (ρ tb).1).run P w=.ok (.stringIter ⟨bs.toArray⟩ pos) w:=by simp [getObj,Sem.run,h3]
       split
       · rename_i n hn
         refine rN (Wd _ _ _ _ _ _ _ _) (fun hb=>?_) fun _=>trivial
         simp only [aB,dV,sZ,aQ,dH] at hb
         obtain ⟨b1,b2,b3⟩:=hb
         have hf:=rU b3
         obtain ⟨u,e4,k4⟩:=Ae kl hn
         have e5:=fY.1 k4.2
         subst e5
         rw [cF] at e4
         obtain ⟨c,e6,e7⟩:=fQ.1 e4
         injection e7 with _ e8
         have hpos:pos<bs.length:=(aV.1 e6).1
         have hdec:Utf8.decode ⟨bs.toArray⟩ pos=(c.toNat,1):=by
          have h9:(ByteArray.mk bs.toArray).get! (pos+0)=c:=by
           show bs.toArray[pos+0]! = c
           rw [gU,qM bs.toArray pos (by simpa using hpos)]
           have:=(aV.1 e6).2
           simpa using this
          have h10:c.toNat<128:=rG
          unfold Utf8.decode
          simp only [h9,h10,eO]
         obtain ⟨m2,o2⟩:=hm.write (b':=.it l (Nat.succ pos) nx) (o:=.stringIter ⟨bs.toArray⟩ (pos+1)) (w':=w.putObj (ρ tb).1 (.stringIter ⟨bs.toArray⟩ (pos+1))) rG rfl hbk (wZ w _ _) (lX (dG.1 h3).1) ⟨bs,kl,rfl⟩
         have hset:(setObj (ρ tb).1 (.stringIter ⟨bs.toArray⟩ (pos+1))).run P w=.ok () (w.putObj (ρ tb).1 (.stringIter ⟨bs.toArray⟩ (pos+1))):=by
          simp [setObj,Sem.run,h3,World.putObj]
         refine ⟨cY _,.tuple #[.bool true,.int .i64 pos,.int .i32 c.toNat],_,ρ,dD _ _,⟨⟨trivial,trivial,trivial,trivial⟩,pE.2 ⟨_,kC.2 ⟨_,_,rfl,rfl,kC.2 ⟨_,_,rfl,rfl,kC.2 ⟨_,_,rfl,?_,rfl⟩⟩⟩,rfl⟩⟩,m2,hf,o2,fun d ty pos' after g=>?_⟩
         · rw [fY,←e8]
         simp [execOp,Instr.next,tH e1,hget,hset,hdec,hsz,hpos,goInt]
       · rename_i hn
         refine rN (Wd _ _ _ _ _ _ _ _) (fun hb=>?_) fun _=>trivial
         have hb:=rU hb
         refine ⟨aH _,.tuple #[.bool false],w,ρ,dD _ _,⟨⟨trivial,trivial⟩,pE.2 ⟨_,kC.2 ⟨_,_,rfl,rfl,rfl⟩,rfl⟩⟩,hm,hfit,fR,fun d ty pos' after g=>?_⟩
         have hnp:¬pos<bs.length:=rG
         simp [execOp,Instr.next,tH e1,hget,hsz,hnp]
       trivial
     trivial
   trivial
 trivial
def wm (P:Program) (E:Tr CV) (h:Tr CB) (nx:Nat) (op:Op):Ro:=match wv P E h nx op with
 | .bad=>mv P E h nx op
 | r=>r
theorem KE {f:Operand} {args:Array Operand} {ats:Array TypeId} (hf:QS P f=false):wm P E h nx (.call ⟨.value f,args,ats⟩)=.bad:=by
 obtain ⟨args⟩:=args
 have hw:wv P E h nx (.call ⟨.value f,⟨args⟩,ats⟩)=.bad:=rfl
 unfold wm
 rw [hw]
 show mv P E h nx (.call ⟨.value f,⟨args⟩,ats⟩)=.bad
 cases f with
 | func g =>
   have hg:Mp P g=false:=hf
   cases args with
   | nil=>rfl
   | cons x xs =>
     cases xs with
     | nil=>show (bif Mp P g then _ else Ro.bad)=.bad;rw [hg];rfl
     | cons y ys=>rfl
 | _=>cases args with
   | nil=>rfl
   | cons x xs=>cases xs <;> rfl
theorem QX {op:Op} (hs:Slots ρ E nx n a) (hm:Mem ρ w0 h nx w) (hfit:nx≤rO):Wd P op ρ w0 h nx a w (wm P E h nx op):=by
 unfold wm
 have H:=QK (P:=P) (op:=op) hs hm hfit
 split
 · exact QW hs hm hfit
 exact H
end
end Go.Sl.Ev
end
