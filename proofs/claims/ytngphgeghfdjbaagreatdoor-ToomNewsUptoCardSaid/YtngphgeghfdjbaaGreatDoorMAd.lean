/- sT of the proof (part 4): what the rows' text needs of the texts that lead to it. -/
import Derived.Test.YtngphgeghfdjbaaGreatDoorMAc
set_option linter.unusedVariables false
set_option linter.unusedSimpArgs false
set_option linter.unusedSectionVars false
set_option maxHeartbeats 4000000
set_option maxRecDepth 100000
namespace Go.Proofs.YtngphgeghfdjbaaGreatDoor
open Go Go.Sl
theorem Qk {n:Int} (h:-9223372036854775808≤n∧n<0):IntKind.u64.wrap (0 - IntKind.u64.wrap n)=-n:=by
 rw [mW,mW];omega
theorem IS (u:Int):rI [(⟨u % 4294967296⟩:U32),⟨u / 4294967296⟩]=u:=by
 rw [sX,sX,sH]
 show u % 4294967296+4294967296*(u / 4294967296+4294967296*0)=u
 omega
theorem DJ {u:Int} (h:0≤u∧u<18446744073709551616):Lims [(⟨u % 4294967296⟩:U32),⟨u / 4294967296⟩]:=by
 intro d hd
 simp only [dE,List.mem_nil_iff,or_false] at hd
 rcases hd with rfl | rfl
 · exact An u
 show 0≤u / 4294967296∧u / 4294967296<4294967296
 omega
theorem Big.lt {G:Imm} {x:IV} {z:Int} (h:Big G x z):(z.natAbs:Int)<pb x.n:=by
 obtain ⟨l,h1,_,_,h4⟩:=h
 rw [←h4.abs,←h1];exact tY h4.digs
section
attribute [local irreducible] rI pb sB rZ
theorem HH (G:Imm) (n:Int) (hn:-9223372036854775808≤n∧n≤9223372036854775807) :
 Does Tryz.prog 43 [.int .i64 n] G [] (fun v G' Ho=>∃ r:IV,v=.agg (Cells.enc r).toArray∧Big G' r n∧Ho=[]):=by
 refine D0 Tryz.func43 Tryz.ntmps43 fun w=>?_
 refine aM 2 [] ?_
 refine aU 0 rfl T.zero89 fun b1=>?_
 refine aL 5 [] ?_
 refine aN (jX rfl T.u165 rfl) ?_
 refine bR 3 [] ?_
 refine pT (ι:=Int) (fun u=>([(0,.int .i64 n),(2,.pointer (some ⟨b1,0,none⟩)),(3,.int .u64 u)],[(0,some b1,.cells #[.bool false,.slice none 0 0] 89)])) (fun u=>0≤u∧u<18446744073709551616∧n=if decide (n<0)=true then -u else u) ?_ fun u=>fun (hk:0≤u∧u<18446744073709551616∧n=if decide (n<0)=true then -u else u)=>?_
 · by_cases hneg:n<0
   · refine aM 9 [1] ?_
     refine aN (mA rfl) ?_
     refine aY 2 [] ?_
     refine dC 3 rfl (show _=Value.int .u64 (-n) by rw [Qk ⟨hn.1,hneg⟩]) ?_
     refine qX (-n) ?_
     exact ⟨by omega,by omega,by rw [aR (by simpa using hneg)];omega⟩
   refine bG 8 [0] ?_
   refine dC 3 rfl (show _=Value.int .u64 n by rw [iK _ rG]) ?_
   refine qX (n) ?_
   exact ⟨by omega,by omega,by rw [aK (by simpa using hneg)]⟩
 obtain ⟨hu0,hu1,hun⟩:=hk
 refine aM 5 [] ?_
 refine aN (gG rfl T.u166 rfl) ?_
 refine aA 1 [] ?_
 refine aN (eY rfl rfl rG) ?_
 refine aN (gB rfl T.u166 rfl rG) ?_
 refine fC (α:=U32) 1 [⟨u % 4294967296⟩,⟨u / 4294967296⟩] rfl T.sl87 T.el166 rfl rfl rfl rfl rfl fun b2=>?_
 have hd:=DJ ⟨hu0,hu1⟩
 refine cN 1 rfl (iS (xs:=[(⟨u % 4294967296⟩:U32),⟨u / 4294967296⟩]) Hj) fun G9 hle9 hA9=>?_
 refine bU 2 rfl (TB _ _ _ _ _ rH rH Hg Hg) fun v1 G1 Ho1 hle1 hp=>?_
 obtain ⟨r1,rfl,hr1,rfl⟩:=hp
 replace hA9:=hA9.up hle1
 refine aY 4 [0] ?_
 refine dQ (.inr rfl) (Ho:=Hp.only _ []) rfl (.agg 0 rfl rfl T.agg89) (bP _ _) ?_
 exact ⟨_,rfl,Big.out hr1 (by rw [IS];exact hun.symm),rfl⟩
theorem TD (G:Imm) (x y:IV) (zx zy:Int) (hx:Big G x zx) (hy:Big G y zy) (h1:x.n≤536870912) (h2:y.n≤536870912) :
 Does Tryz.prog 42 [.agg (Cells.enc x).toArray,.agg (Cells.enc y).toArray] G [] (fun v G' Ho=>∃ r:IV,v=.agg (Cells.enc r).toArray∧Big G' r (zx+zy)∧Ho=[]):=by
 obtain ⟨n1,a,k1,ca⟩:=x
 obtain ⟨n2,b,k2,cb⟩:=y
 obtain ⟨la,hl,hlc,hA,hI⟩:=hx
 obtain ⟨lb,hl',hlc',hA',hI'⟩:=hy
 simp only at hl hlc hA hI hl' hlc' hA' hI' h1 h2
 subst hl hl'
 have da:=hI.digs
 have db:=hI'.digs
 have ta:=hI.top
 have tb:=hI'.top
 have len_le:∀ {l m:List U32},Lims l→Lims m→Top m→rI m≤rI l→m.length≤l.length:=fun {l m} hl hm tm h=>by
  rcases aJ l.length m.length with h1 | h1
  · have:=wG hl hm tm h1;omega
  exact h1
 show Does Tryz.prog 42 [.agg #[.bool n1,.slice a la.length ca],.agg #[.bool n2,.slice b lb.length cb]] G [] _
 refine D0 Tryz.func42 Tryz.ntmps42 fun w=>?_
 by_cases hs:n1=n2
 · refine aM 2 [] ?_
   refine cV 0 fun b1=>?_
   refine cV 1 fun b2=>?_
   refine aU 2 rfl T.zero89 fun b3=>?_
   refine aL 9 [0,1] ?_
   refine aN (pV T.u4 rfl rfl) ?_
   refine bR 4 [1] ?_
   refine dT [0,1,2] [(2,8)] T.mixed [[0],[1,0],[2],[3,0],[4],[5,1]] ?_
   refine fE 6 ?_
   refine bU 3 rfl (c97 _ _ _ _ _ _ _ rH rH rH rH rG rG) fun v1 G1 Ho1 hle1 hp=>?_
   obtain ⟨⟨ra1,rm1,rfl,hra1,hrl1,hrt1,hrv1,hrn1⟩,rfl⟩:=hp
   replace hA:=hA.up hle1
   replace hA':=hA'.up hle1
   refine bO 7 ?_
   refine cG rfl (Gp _ _ _ _ _ rG) ?_
   refine bO 8 ?_
   refine aA 1 [2] ?_
   refine fO ?_
   refine iG 3 [] ?_
   refine dQ (.inr rfl) (Ho:=Hp.only _ []) rfl (.agg 2 rfl rfl T.agg89) (bP _ _) ?_
   all_goals
    refine ⟨⟨n1 && decide (0<rm1.length),ra1,rm1.length,rm1.length⟩,rfl,mM n1 hra1 hrl1 hrt1 (aH _) ?_,rfl⟩
    rw [hrv1,hI.val,hI'.val]
    revert hs
    cases n1 <;> cases n2 <;> simp <;> omega
 by_cases hle:rI lb≤rI la
 · have hcmp:¬sB (rI la) (rI lb)<0:=fun h=>by have:=Qi h;omega
   have hll:=len_le da db tb hle
   refine aM 2 [] ?_
   refine cV 0 fun b1=>?_
   refine cV 1 fun b2=>?_
   refine aU 2 rfl T.zero89 fun b3=>?_
   refine aL 9 [0,1] ?_
   refine aN (pV T.u4 rfl rfl) ?_
   refine aL 12 [0,0,1] ?_
   refine cG rfl (KT _ _ _ _ _ _ _ rH rH rH rH rG rG rG rG) ?_
   refine aL 12 [0,0,1] ?_
   refine bU 3 rfl (c99 _ _ _ _ _ _ _ rH rH rH rH rG rG rG rG rG) fun v1 G1 Ho1 hle1 hp=>?_
   obtain ⟨rq1,rfl,⟨ra1,rm1,rfl,hra1,hrl1,hrt1,hrv1,hrn1⟩,rfl⟩:=hp
   replace hA:=hA.up hle1
   replace hA':=hA'.up hle1
   refine aL 12 [0] ?_
   refine cG rfl (Gp _ _ _ _ _ rG) ?_
   refine aY 4 [2] ?_
   refine dQ (.inr rfl) (Ho:=Hp.only _ []) rfl (.agg 2 rfl rfl T.agg89) (bP _ _) ?_
   refine ⟨⟨n1 && decide (0<rm1.length),ra1,rm1.length,rm1.length⟩,rfl,mM n1 hra1 hrl1 hrt1 (aH _) ?_,rfl⟩
   rw [hrv1,hI.val,hI'.val]
   revert hs
   cases n1 <;> cases n2 <;> simp <;> omega
 have hcmp:sB (rI la) (rI lb)=-1:=wA rG
 have hle':rI la≤rI lb:=rG
 have hll:=len_le db da ta hle'
 refine aM 2 [] ?_
 refine cV 0 fun b1=>?_
 refine cV 1 fun b2=>?_
 refine aU 2 rfl T.zero89 fun b3=>?_
 refine aL 9 [0,1] ?_
 refine aN (pV T.u4 rfl rfl) ?_
 refine aL 12 [0,0,1] ?_
 refine cG rfl (KT _ _ _ _ _ _ _ rH rH rH rH rG rG rG rG) ?_
 refine aL 17 [1,1,0,0,1,0,1] ?_
 refine bU 3 rfl (c99 _ _ _ _ _ _ _ rH rH rH rH rG rG rG rG rG) fun v1 G1 Ho1 hle1 hp=>?_
 obtain ⟨rq1,rfl,⟨ra1,rm1,rfl,hra1,hrl1,hrt1,hrv1,hrn1⟩,rfl⟩:=hp
 replace hA:=hA.up hle1
 replace hA':=hA'.up hle1
 refine aL 12 [0] ?_
 refine cG rfl (Gp _ _ _ _ _ rG) ?_
 refine aY 4 [2] ?_
 refine dQ (.inr rfl) (Ho:=Hp.only _ []) rfl (.agg 2 rfl rfl T.agg89) (bP _ _) ?_
 refine ⟨⟨n2 && decide (0<rm1.length),ra1,rm1.length,rm1.length⟩,rfl,mM n2 hra1 hrl1 hrt1 (aH _) ?_,rfl⟩
 rw [hrv1,hI.val,hI'.val]
 revert hs
 cases n1 <;> cases n2 <;> simp <;> omega
theorem OL (G:Imm) (x y:IV) (zx zy:Int) (hx:Big G x zx) (hy:Big G y zy) (h1:x.n≤536870912) (h2:y.n≤536870912) :
 Does Tryz.prog 159 [.agg (Cells.enc x).toArray,.agg (Cells.enc y).toArray] G [] (fun v G' Ho=>∃ r:IV,v=.agg (Cells.enc r).toArray∧Big G' r (zx - zy)∧Ho=[]):=by
 refine D0 Tryz.func159 Tryz.ntmps159 fun w=>?_
 refine aM 2 [] ?_
 refine cV 0 fun b1=>?_
 refine cV 1 fun b2=>?_
 refine aU 2 rfl T.zero89 fun b3=>?_
 refine bR 3 [] ?_
 refine dT [0,1,2] [(2,4)] T.mixed [[0,0],[1,1]] ?_
 refine fE 2 ?_
 refine bU 3 rfl (c55 _ _ _ hy rG) fun v1 G1 Ho1 hle1 hp=>?_
 obtain ⟨nr1,rfl,hnr1,rfl,rfl⟩:=hp
 refine bO 3 ?_
 have hn1:nr1.n≤y.n:=iC hnr1 (by rw [Int.natAbs_neg];exact Big.lt hy)
 refine bU 20 rfl (TD _ x nr1 zx (-zy) hx hnr1 h1 rG) fun v2 G2 Ho2 hle2 hp=>?_
 obtain ⟨r2,rfl,hr2,rfl⟩:=hp
 refine bO 4 ?_
 refine aA 1 [2] ?_
 refine fO ?_
 refine iG 2 [] ?_
 refine dQ (.inr rfl) (Ho:=Hp.only _ []) rfl (.agg 2 rfl rfl T.agg89) (bP _ _) ?_
 exact ⟨r2,rfl,Big.out hr2 (Int.sub_eq_add_neg).symm,rfl⟩
theorem OM (d s:Nat):pb d*((2 ^ s:Nat):Int)=((2 ^ (32*d+s):Nat):Int):=by
 unfold pb
 rw [←eW]
 congr 1
 rw [show (4294967296:Nat)=2 ^ 32 by decide,←Nat.pow_mul,←lT]
theorem c56 (G:Imm) (x:IV) (zx:Int) (d s:Nat) (hx:Big G x zx) (h1:x.n≤536870912) (hs:s<32) (hd:d≤1000) :
 Does Tryz.prog 56 [.agg (Cells.enc x).toArray,.int .i64 ((32*d+s:Nat):Int)] G [] (fun v G' Ho=>∃ r:IV,v=.tuple #[.agg (Cells.enc r).toArray,.int .i64 0]∧Big G' r (zx*((2 ^ (32*d+s):Nat):Int))∧Ho=[]):=by
 obtain ⟨n1,a,k1,ca⟩:=x
 obtain ⟨la,hl,hlc,hA,hI⟩:=hx
 simp only at hl hlc hA hI h1
 subst hl
 have da:=hI.digs
 show Does Tryz.prog 56 [.agg #[.bool n1,.slice a la.length ca],.int .i64 ((32*d+s:Nat):Int)] G [] _
 refine D0 Tryz.func56 Tryz.ntmps56 fun w=>?_
 refine aM 2 [] ?_
 refine cV 0 fun b1=>?_
 refine aU 1 rfl T.zero89 fun b2=>?_
 refine aL 8 [0] ?_
 refine bU 2 rfl (OJ _ _ _ _ d s rH rH rG hs hd) fun v1 G1 Ho1 hle1 hp=>?_
 obtain ⟨rq1,rfl,⟨ra1,rm1,rfl,hra1,hrl1,hrt1,hrv1,hrn1⟩,rfl⟩:=hp
 replace hA:=hA.up hle1
 refine aL 22 [0,0] ?_
 refine cG rfl (Gp _ _ _ _ _ rG) ?_
 refine aY 5 [1] ?_
 refine iO (.inr rfl) (Ho:=Hp.only _ []) rfl (.agg 1 rfl rfl T.agg89) (.tmp rfl) (bP _ _) ?_
 refine ⟨⟨n1 && decide (0<rm1.length),ra1,rm1.length,rm1.length⟩,rfl,mM n1 hra1 hrl1 hrt1 (aH _) ?_,rfl⟩
 rw [hrv1,hI.val,OM]
 cases n1
 · rw [aK (by decide),aK (by decide),cI]
 rw [aR rfl,aR rfl,oG,cI]
end
end Go.Proofs.YtngphgeghfdjbaaGreatDoor
namespace Go.Sl
open Go
section
variable {B:Bs} {e:Env} {D:List Deferred} {H:Hp} {G:Imm}
theorem retagH {a:Act} {w:World} (hh:Hold B ⟨e,D,H,G⟩ a w) (t t':Nat) {k:Option Nat} {o:Obj} (ht:H.get t=some (k,o)) (hn:t≠t') (hk:H.get t'=none∨True):Hold B ⟨e,D,(t',k,o) :: (t,none,o) :: H,G⟩ a w:=by
 have key:∀ i b o',Hp.get ((t',k,o) :: (t,none,o) :: H) i=some (some b,o')→(i=t'∧H.get t=some (some b,o'))∨(i≠t'∧i≠t∧H.get i=some (some b,o')):=fun i b o' hx=>by
  rw [cE] at hx
  split at hx
  · rename_i hi;left;refine ⟨hi.symm,?_⟩;rw [ht];exact hx
  rename_i hi
  rw [cE] at hx
  split at hx
  · simp at hx
  rename_i hi2;exact .inr ⟨fun h=>hi h.symm,fun h=>hi2 h.symm,hx⟩
 refine ⟨hh.size,hh.defers,hh.env,⟨?_,?_,hh.mem.imm,?_⟩,hh.upd,?_,hh.le,hh.new⟩
 · intro i b o' hx
   rcases key i b o' hx with ⟨_,h⟩ | ⟨_,_,h⟩
   · exact hh.mem.own _ b o' h
   exact hh.mem.own _ b o' h
 · intro i i' b o1 o2 hx hy
   rcases key i b o1 hx with ⟨h1,h2⟩ | ⟨h1,h1',h2⟩ <;> rcases key i' b o2 hy with ⟨h3,h4⟩ | ⟨h3,h3',h4⟩
   · rw [h1,h3]
   · exact absurd (hh.mem.one _ _ b _ _ h2 h4).symm h3'
   · exact absurd (hh.mem.one _ _ b _ _ h2 h4) h1'
   exact hh.mem.one _ _ b _ _ h2 h4
 · intro i b o' hx
   rcases key i b o' hx with ⟨_,h⟩ | ⟨_,_,h⟩
   · exact hh.mem.off _ b o' h
   exact hh.mem.off _ b o' h
 intro i b o' hx
 rcases key i b o' hx with ⟨_,h⟩ | ⟨_,_,h⟩
 · exact hh.mine _ b o' h
 exact hh.mine _ b o' h
theorem Ar.retag {x:Exit} {Q:Exit→Act→World→Prop} (t t':Nat) {k:Option Nat} {o:Obj} (ht:H.get t=some (k,o)) (hn:Nat.beq t t'=false) (h:Ar Q x B ⟨e,D,(t',k,o) :: (t,none,o) :: H,G⟩):Ar Q x B ⟨e,D,H,G⟩:=
 fun a w hh=>h a w (retagH hh t t' ht (fun e=>by subst e;simp at hn) (.inr trivial))
end
end Go.Sl
namespace Go.Proofs.YtngphgeghfdjbaaGreatDoor
open Go Go.Sl
theorem Tk (z:Int):-1≤Aa z∧Aa z≤1:=by unfold Aa;split;exact ⟨by omega,by omega⟩;split <;> exact ⟨by omega,by omega⟩
theorem Vn (z:Int):-9223372036854775808≤Aa z∧Aa z≤9223372036854775807:=by have:=Tk z;omega
theorem IT (z:Int):((Aa z).natAbs:Int)<pb 1:=by have:=Tk z;have:pb 1=4294967296:=rW;omega
theorem IU (z:Int):Aa z*z=z.natAbs:=by
 unfold Aa
 split
 · omega
 split <;> omega
theorem Gq {x y q r:Int} (hy:y≠0) (h:x=q*y+r) (h0:0≤r) (h1:r<y.natAbs):q=x / y∧r=x % y:=by
 rcases Int.lt_or_gt_of_ne hy with hn | hp
 · have:=(Int.ediv_emod_unique' (a:=x) (b:=y) (r:=r) (q:=q) hn).2 ⟨by rw [cI y q];omega,h0,by omega⟩
   exact ⟨this.1.symm,this.2.symm⟩
 have:=(pP (a:=x) (b:=y) (r:=r) (q:=q) hp).2 ⟨by rw [cI y q];omega,h0,by omega⟩
 exact ⟨this.1.symm,this.2.symm⟩
theorem Ql {n1 n2:Bool} {x y la lb lq lr:Int} (hx:x=if n1=true then -la else la) (hy:y=if n2=true then -lb else lb) (hv:la=lq*lb+lr) :
 x=(if decide (n1≠n2)=true then -lq else lq)*y+(if n1=true then -lr else lr):=by
 subst hx hy hv
 cases n1 <;> cases n2 <;> simp [oG,Int.mul_neg,Int.neg_add]
theorem Vo {x y q r:Int} (h:x=q*y+r):x=(q - Aa y)*y+(r+y.natAbs):=by
 have:=IU y
 rw [oF,this];omega
theorem IW {n1:Bool} {m:List U32} {q x y:Int} (hx:x=q*y+(if n1=true then -rI m else rI m)) (hy:y≠0) (hl:rI m<y.natAbs) (h:(n1 && decide (0<m.length))=true) (ht:Top m) (hd:Lims m) :
 q - Aa y=x / y∧(if n1=true then -rI m else rI m)+(y.natAbs:Int)=x % y:=by
 rw [aB,aQ] at h
 have hp:=Ih hd ht (fun e=>by have:=h.2;rw [e] at this;simp at this)
 have e:=h.1
 subst e
 rw [aR rfl] at hx ⊢
 exact Gq hy (Vo hx) rG rG
theorem DK {n1:Bool} {m:List U32} {q x y:Int} (hx:x=q*y+(if n1=true then -rI m else rI m)) (hy:y≠0) (hl:rI m<y.natAbs) (h:(n1 && decide (0<m.length))=false) (hd:Lims m) :
 q=x / y∧(if n1=true then -rI m else rI m)=x % y:=by
 have hn:=sD hd
 refine Gq hy hx ?_ ?_
 · cases n1 with
   | false=>rw [aK (by decide)];exact hn
   | true =>
     have h0:m=[]:=by
      rw [jT,dH] at h
      exact bW rG
     rw [aR rfl,h0,sH]
     omega
 split <;> omega
section
attribute [local irreducible] rI pb sB rZ
theorem TE (G:Imm) (x y:IV) (zx zy:Int) (hx:Big G x zx) (hy:Big G y zy) (h1:x.n≤268435456) (h2:y.n≤268435456) (hy0:zy≠0) :
 Does Tryz.prog 109 [.agg (Cells.enc x).toArray,.agg (Cells.enc y).toArray] G [] (fun v G' Ho=>∃ q r:IV,v=.tuple #[.agg (Cells.enc q).toArray,.agg (Cells.enc r).toArray,.int .i64 0]∧Big G' q (zx / zy)∧Big G' r (zx % zy)∧Ho=[]):=by
 obtain ⟨n1,a,k1,ca⟩:=x
 obtain ⟨n2,b,k2,cb⟩:=y
 obtain ⟨la,hl,hlc,hA,hI⟩:=hx
 obtain ⟨lb,hl',hlc',hA',hI'⟩:=hy
 simp only at hl hlc hA hI hl' hlc' hA' hI' h1 h2
 subst hl hl'
 have da:=hI.digs
 have db:=hI'.digs
 have ta:=hI.top
 have tb:=hI'.top
 have h1':la.length≤536870912:=rG
 have h2':lb.length≤536870912:=rG
 have va:=hI.abs
 have vb:=hI'.abs
 have hlt:=tY db
 have hB:0<rI lb:=rG
 show Does Tryz.prog 109 [.agg #[.bool n1,.slice a la.length ca],.agg #[.bool n2,.slice b lb.length cb]] G [] _
 refine D0 Tryz.func109 Tryz.ntmps109 fun w=>?_
 refine aM 2 [] ?_
 refine cV 0 fun b1=>?_
 refine cV 1 fun b2=>?_
 refine aU 2 rfl T.zero89 fun b3=>?_
 refine aU 3 rfl T.zero89 fun b4=>?_
 refine aL 9 [0,1] ?_
 refine bU 4 rfl (TA _ _ _ _ _ _ _ rH rH da ta db h1' h2' hlc hlc' hB) fun v1 G1 Ho1 hle1 hp=>?_
 obtain ⟨_,_,rfl,⟨qa1,qm1,rfl,hqa1,hql1,hqt1,hqv1,hqn1⟩,⟨ra1,rm1,rfl,hra1,hrl1,hrt1,hrv1,hrn1⟩,rfl⟩:=hp
 replace hA:=hA.up hle1
 replace hA':=hA'.up hle1
 refine bR 19 [0] ?_
 refine pT (ι:=Nat×Nat) (fun (p,q)=>([(10,.pointer (some ⟨p,0,none⟩)),(11,.pointer (some ⟨q,0,none⟩)),(6,.int .i64 0),(5,.pointer (some (Addr.mk b4 0 none))),(4,.pointer (some (Addr.mk b3 0 none))),(3,.pointer (some ⟨b2,0,none⟩))],[(60,some p,.cells #[.bool (decide (n1≠n2) && decide (0<qm1.length)),.slice qa1 qm1.length qm1.length] 89),(61,some q,.cells #[.bool (n1 && decide (0<rm1.length)),.slice ra1 rm1.length rm1.length] 89),(3,some b4,.cells #[.bool Bool.false,.slice none 0 0] 89),(2,some b3,.cells #[.bool Bool.false,.slice none 0 0] 89),(1,some b2,.cells #[.bool n2,.slice b (List.length lb) cb] 89),(0,some b1,.cells #[.bool n1,.slice a (List.length la) ca] 89)])) (fun (p,q)=>True) ?_ fun ⟨p,q⟩=>fun (hk:True)=>?_
 · refine dT [0,1,2,3] [] T.mixed [[0],[1,0],[2],[3,1]] ?_
   refine gR 4 [] rfl (Bv T.u4 rfl rfl) ?_
   refine eD [[5],[7],[8,0],[9]] ?_
   refine Gm.o3 6 11 12 ?_ ?_ ?_
   refine cG rfl (Gp _ _ _ _ _ rG) ?_
   refine eE ?_
   refine Gm.o3 10 11 12 ?_ ?_ ?_
   refine cG rfl (Gp _ _ _ _ _ rG) ?_
   refine eE ?_
   refine oH 11 12 ?_ ?_
   refine aU 4 rfl T.zero89 fun b5=>?_
   refine bO 12 ?_
   refine aU 5 rfl T.zero89 fun b6=>?_
   refine bO 13 ?_
   refine aA 1 [4] ?_
   refine bO 14 ?_
   refine aA 1 [5] ?_
   refine fO ?_
   rotate_left
   refine aU 4 rfl T.zero89 fun b5=>?_
   refine bO 11 ?_
   refine aU 5 rfl T.zero89 fun b6=>?_
   refine bO 13 ?_
   refine aA 1 [5] ?_
   refine bO 14 ?_
   refine aA 1 [4] ?_
   refine fO ?_
   rotate_left
   refine aU 4 rfl T.zero89 fun b5=>?_
   refine eE ?_
   refine oH 10 12 ?_ ?_
   refine cG rfl (Gp _ _ _ _ _ rG) ?_
   refine bO 12 ?_
   refine aU 5 rfl T.zero89 fun b6=>?_
   refine bO 13 ?_
   refine aA 1 [4] ?_
   refine bO 14 ?_
   refine aA 1 [5] ?_
   refine fO ?_
   rotate_left
   refine aU 5 rfl T.zero89 fun b6=>?_
   refine bO 10 ?_
   refine cG rfl (Gp _ _ _ _ _ rG) ?_
   refine bO 13 ?_
   refine aA 1 [4] ?_
   refine bO 14 ?_
   refine aA 1 [5] ?_
   refine fO ?_
   rotate_left
   refine aU 4 rfl T.zero89 fun b5=>?_
   refine eE ?_
   refine oH 10 11 ?_ ?_
   refine cG rfl (Gp _ _ _ _ _ rG) ?_
   refine bO 11 ?_
   refine aU 5 rfl T.zero89 fun b6=>?_
   refine bO 13 ?_
   refine aA 1 [5] ?_
   refine bO 14 ?_
   refine aA 1 [4] ?_
   refine fO ?_
   rotate_left
   refine aU 5 rfl T.zero89 fun b6=>?_
   refine bO 10 ?_
   refine cG rfl (Gp _ _ _ _ _ rG) ?_
   refine bO 13 ?_
   refine aA 1 [5] ?_
   refine bO 14 ?_
   refine aA 1 [4] ?_
   refine fO ?_
   rotate_left
   refine aU 4 rfl T.zero89 fun b5=>?_
   refine eE ?_
   refine oH 6 12 ?_ ?_
   refine cG rfl (Gp _ _ _ _ _ rG) ?_
   refine eE ?_
   refine oH 10 12 ?_ ?_
   refine cG rfl (Gp _ _ _ _ _ rG) ?_
   refine bO 12 ?_
   refine aU 5 rfl T.zero89 fun b6=>?_
   refine bO 13 ?_
   refine aA 1 [4] ?_
   refine bO 14 ?_
   refine aA 1 [5] ?_
   refine fO ?_
   rotate_left
   refine aU 5 rfl T.zero89 fun b6=>?_
   refine bO 10 ?_
   refine cG rfl (Gp _ _ _ _ _ rG) ?_
   refine bO 13 ?_
   refine aA 1 [4] ?_
   refine bO 14 ?_
   refine aA 1 [5] ?_
   refine fO ?_
   rotate_left
   refine aU 5 rfl T.zero89 fun b6=>?_
   refine bO 6 ?_
   refine cG rfl (Gp _ _ _ _ _ rG) ?_
   refine bO 10 ?_
   refine cG rfl (Gp _ _ _ _ _ rG) ?_
   refine bO 13 ?_
   refine aA 1 [4] ?_
   refine bO 14 ?_
   refine aA 1 [5] ?_
   refine fO ?_
   rotate_left
   refine aU 4 rfl T.zero89 fun b5=>?_
   refine eE ?_
   refine oH 6 11 ?_ ?_
   refine cG rfl (Gp _ _ _ _ _ rG) ?_
   refine eE ?_
   refine oH 10 11 ?_ ?_
   refine cG rfl (Gp _ _ _ _ _ rG) ?_
   refine bO 11 ?_
   refine aU 5 rfl T.zero89 fun b6=>?_
   refine bO 13 ?_
   refine aA 1 [5] ?_
   refine bO 14 ?_
   refine aA 1 [4] ?_
   refine fO ?_
   rotate_left
   refine aU 5 rfl T.zero89 fun b6=>?_
   refine bO 10 ?_
   refine cG rfl (Gp _ _ _ _ _ rG) ?_
   refine bO 13 ?_
   refine aA 1 [5] ?_
   refine bO 14 ?_
   refine aA 1 [4] ?_
   refine fO ?_
   rotate_left
   refine aU 5 rfl T.zero89 fun b6=>?_
   refine bO 6 ?_
   refine cG rfl (Gp _ _ _ _ _ rG) ?_
   refine bO 10 ?_
   refine cG rfl (Gp _ _ _ _ _ rG) ?_
   refine bO 13 ?_
   refine aA 1 [5] ?_
   refine bO 14 ?_
   refine aA 1 [4] ?_
   refine fO ?_
   rotate_left
   all_goals first | (refine Ar.retag 4 60 rfl rfl (Ar.retag 5 61 rfl rfl (Bz (b5,b6) trivial rfl ?_ ?_)) <;> (repeat (first | exact trivial | refine ⟨rfl,?_⟩));done) | (refine Ar.retag 5 60 rfl rfl (Ar.retag 4 61 rfl rfl (Bz (b6,b5) trivial rfl ?_ ?_)) <;> (repeat (first | exact trivial | refine ⟨rfl,?_⟩));done)
 have hxy:=Ql hI.val hI'.val (show rI la=rI qm1*rI lb+rI rm1 by rw [hqv1,hrv1,cI];exact (Int.mul_ediv_add_emod (rI la) (rI lb)).symm)
 have hrlt:rI rm1<rI lb:=by rw [hrv1];exact dX _ hB
 have hQ0:=mM (decide (n1≠n2)) hqa1 hql1 hqt1 (aH _) rfl
 have hy2:Big G1 ⟨n2,b,lb.length,cb⟩ zy:=⟨lb,rfl,hlc',hA',hI'⟩
 have hR0:=mM n1 hra1 hrl1 hrt1 (aH _) rfl
 refine cJ 7 [61] ?_
 refine rA rfl (fun hc1=>?_) fun hc1=>?_
 refine dN ?_
 refine dT [0,1,2,3,61,60] [(61,4)] T.mixed [[0,61],[1,1]] ?_
 refine fE 2 ?_
 refine bU 62 rfl (c58 _ ⟨n2,b,lb.length,cb⟩ zy hy2 (aP h2' rW)) fun v2 G2 Ho2 hle2 hp=>?_
 obtain ⟨nr2,rfl,hnr2,rfl,rfl⟩:=hp
 refine bO 3 ?_
 refine bU 62 rfl (TD _ ⟨(n1 && decide (0<rm1.length)),ra1,rm1.length,rm1.length⟩ nr2 _ _ hR0 hnr2 (aP hrn1 h2') (aP (iC hnr2 (m:=lb.length) rG) h2')) fun v3 G3 Ho3 hle3 hp=>?_
 obtain ⟨rs3,rfl,hrs3,rfl⟩:=hp
 replace hnr2:=hnr2.up hle3
 replace hqa1:=hqa1.up hle3
 replace hra1:=hra1.up hle3
 replace hA:=hA.up hle3
 replace hA':=hA'.up hle3
 replace hQ0:=hQ0.up hle3
 replace hy2:=hy2.up hle3
 replace hR0:=hR0.up hle3
 refine bO 4 ?_
 refine aA 1 [61] ?_
 refine fO ?_
 refine cB ?_
 refine dT [0,1,2,3,60,61] [(60,5)] T.mixed [[0,60],[1,1]] ?_
 refine fE 2 ?_
 refine cG rfl (c48 _ _ _ _ _ zy hI' rG) ?_
 refine bO 3 ?_
 refine bU 62 rfl (HH _ _ (Vn zy)) fun v4 G4 Ho4 hle4 hp=>?_
 obtain ⟨ro4,rfl,hro4,rfl⟩:=hp
 replace hrs3:=hrs3.up hle4
 replace hnr2:=hnr2.up hle4
 replace hqa1:=hqa1.up hle4
 replace hra1:=hra1.up hle4
 replace hA:=hA.up hle4
 replace hA':=hA'.up hle4
 replace hQ0:=hQ0.up hle4
 replace hy2:=hy2.up hle4
 replace hR0:=hR0.up hle4
 refine bO 4 ?_
 refine bU 62 rfl (OL _ ⟨(decide (n1≠n2) && decide (0<qm1.length)),qa1,qm1.length,qm1.length⟩ ro4 _ _ hQ0 hro4 (aP hqn1 h1') (aP (iC hro4 (m:=1) (IT zy)) rW)) fun v5 G5 Ho5 hle5 hp=>?_
 obtain ⟨rd5,rfl,hrd5,rfl⟩:=hp
 replace hro4:=hro4.up hle5
 replace hrs3:=hrs3.up hle5
 replace hnr2:=hnr2.up hle5
 replace hqa1:=hqa1.up hle5
 replace hra1:=hra1.up hle5
 replace hA:=hA.up hle5
 replace hA':=hA'.up hle5
 replace hQ0:=hQ0.up hle5
 replace hy2:=hy2.up hle5
 replace hR0:=hR0.up hle5
 refine bO 5 ?_
 refine aA 1 [60] ?_
 refine fO ?_
 refine oV 2 [] ?_
 refine dT [0,1,2,3,61,60] [(3,3),(2,2)] T.mixed [[0,60],[1,61]] ?_
 refine fE 2 ?_
 refine aA 1 [2] ?_
 refine bO 3 ?_
 refine aA 1 [3] ?_
 refine eE ?_
 refine eD [[4]] ?_
 refine dY ?_
 refine iG 2 [] ?_
 refine pZ (.inr rfl) (Ho:=Hp.only _ []) rfl (.agg 2 rfl rfl T.agg89) (.agg 3 rfl rfl T.agg89) (.tmp rfl) (bP _ _) ?_
 rotate_left
 refine cJ 3 [] ?_
 refine dT [0,1,2,3,61,60] [(3,3),(2,2)] T.mixed [[0,60],[1,61]] ?_
 refine fE 2 ?_
 refine aA 1 [2] ?_
 refine bO 3 ?_
 refine aA 1 [3] ?_
 refine eE ?_
 refine eD [[4]] ?_
 refine dY ?_
 refine iG 2 [] ?_
 refine pZ (.inr rfl) (Ho:=Hp.only _ []) rfl (.agg 2 rfl rfl T.agg89) (.agg 3 rfl rfl T.agg89) (.tmp rfl) (bP _ _) ?_
 rotate_left
 · have he:=IW hxy hy0 rG hc1 hrt1 hrl1
   refine ⟨rd5,rs3,rfl,?_,?_,rfl⟩
   · rw [←he.1];exact hrd5
   rw [←he.2];exact hrs3
 have he:=DK hxy hy0 rG hc1 hrl1
 refine ⟨⟨(decide (n1≠n2) && decide (0<qm1.length)),qa1,qm1.length,qm1.length⟩,⟨(n1 && decide (0<rm1.length)),ra1,rm1.length,rm1.length⟩,rfl,?_,?_,rfl⟩
 · rw [←he.1];exact hQ0
 rw [←he.2];exact hR0
end
def TrimTo (l:List U32) (n:Nat):Prop:=n≤l.length∧(∀ j,n≤j→j<l.length→(l[j]?.getD default).v=0)∧(n=0∨(l[n - 1]?.getD default).v≠0)
theorem Gr {α:Type} [Cells α] {G:Imm} {a:Option Addr} {c sz:Nat} {l:List α} (h:Arr G a l) (n:Nat):Arr G (subA a c 0 sz) (l.take n):=by
 refine ⟨rT _,?_⟩
 rcases h.2 with h0 | ⟨b,o,rfl,hr⟩
 · left;rw [bC];omega
 refine .inr ⟨b,o,?_,fun i v hi=>hr i v ?_⟩
 · unfold subA
   split
   · rfl
   simp [Addr.add]
 have e:rX l=rX (l.take n)++rX (l.drop n):=by rw [←tV,cU]
 rw [e,aZ (aV.1 hi).1];exact hi
theorem vI (G:Imm) (neg:Bool) (a:Option Addr) (c:Nat) (l:List U32) (hl:Arr G a l) (hb:l.length≤1099511627776) (hc:l.length≤c) :
 Does Tryz.prog 106 [.bool neg,.slice a l.length c] G [] (fun v G' Ho=>∃ n,v=.agg #[.bool (neg && decide (0<n)),.slice (subA a c 0 1) n c]∧TrimTo l n∧G'=G∧Ho=[]):=by
 refine D0 Tryz.func106 Tryz.ntmps106 fun w=>?_
 refine aM 2 [] ?_
 refine aU 0 rfl T.zero93 fun b1=>?_
 refine bR 11 [] ?_
 refine fS (ι:=Nat) (fun n=>([(5,.int .i64 (n:Int)),(4,.pointer (some ⟨b1,0,none⟩)),(0,.bool neg),(1,.slice a (List.length l) c)],[(0,some b1,.cells #[.bool Bool.false,.slice none 0 0] 93)])) (fun n=>n≤l.length∧(∀ j,n≤j→j<l.length→(l[j]?.getD default).v=0)) (fun n=>n) (l.length) (⟨aH _,fun j h1 h2=>absurd h2 rG⟩) fun n=>fun hk=>?_
 obtain ⟨hn,hz⟩:=hk
 refine aM 6 [] ?_
 apply dS 7 10 17 rfl
 intro hg1
 refine aA 7 [] ?_
 refine dI (α:=U32) T.sl87 ?_
 refine aA 1 [] ?_
 refine fJ 0 T.one166 ?_
 refine aA 3 [] ?_
 exact cQ 7 0
 intro hg1
 refine aA 7 [] ?_
 exact cQ 7 0
 refine bR 2 [] ?_
 refine dL (fun hc1=>?_) fun hc1=>?_
 refine bG 9 [] ?_
 rotate_left
 refine aM 9 [] ?_
 refine Xu 21 rfl (fun hg1=>?_) fun hg1=>?_
 refine aA 7 [] ?_
 refine aN (Nh T.sl87 rfl rfl rG) ?_
 refine aN (gI (cs:=[_,_]) T.st93 rfl rfl rfl) ?_
 refine aY 4 [0] ?_
 refine dQ (.inr rfl) (Ho:=Hp.only _ []) rfl (.agg 0 rfl rfl T.agg93) (bP _ _) ?_
 rotate_left
 refine aA 5 [] ?_
 refine aN (Nh T.sl87 rfl rfl rG) ?_
 refine aN (gI (cs:=[_,_]) T.st93 rfl rfl rfl) ?_
 refine aY 4 [0] ?_
 refine dQ (.inr rfl) (Ho:=Hp.only _ []) rfl (.agg 0 rfl rfl T.agg93) (bP _ _) ?_
 rotate_left
 · refine dC 5 rfl (show _=Value.int .i64 ((n - 1:Nat):Int) by congr 1;omega) ?_
   refine cP (n - 1) ?_ ?_
   · refine ⟨by omega,fun j h1 h2=>?_⟩
     rcases aJ j n with h3 | h3
     · have e:j=((n:Int) - 1).toNat:=rG
       rw [e];exact hc1.2
     exact hz j h3 h2
   omega
 · refine ⟨n,?_,⟨hn,hz,?_⟩,rfl,rfl⟩
   · rw [hg1]
     have e:((0:Int)<(n:Int))=(0<n):=by rw [eq_iff_iff];omega
     simp only [e,jT,aF]
   rcases eQ n with h | h
   · exact .inl h
   refine .inr fun h2=>hc1 ⟨by omega,?_⟩
   have e:((n:Int) - 1).toNat=n - 1:=rG
   rw [e];exact h2
 refine ⟨n,?_,⟨hn,hz,?_⟩,rfl,rfl⟩
 · rw [hg1]
   simp only [Bool.false_and,aF]
 rcases eQ n with h | h
 · exact .inl h
 refine .inr fun h2=>hc1 ⟨by omega,?_⟩
 have e:((n:Int) - 1).toNat=n - 1:=rG
 rw [e];exact h2
theorem TrimTo.val {l:List U32} {n:Nat} (h:TrimTo l n):rJ (l.take n)=rJ l:=Ym h.2.1
theorem TrimTo.top {l:List U32} {n:Nat} (h:TrimTo l n):Top (l.take n):=by
 obtain ⟨h1,h2,h3⟩:=h
 rcases h3 with h3 | h3
 · subst h3;exact .inl rfl
 by_cases h0:n=0
 · subst h0;exact .inl rfl
 refine .inr ?_
 rw [bC,cS h1,gP,aR (by omega)]
 exact h3
theorem TrimTo.len {l:List U32} {n:Nat} (h:TrimTo l n):(l.take n).length=n:=by rw [bC,cS h.1]
theorem TrimTo.isInt {l:List U32} {n:Nat} (h:TrimTo l n) (hd:Digs l) (neg:Bool):IsInt (neg && decide (0<n)) (l.take n) (if neg=true then -rJ l else rJ l):=by
 refine ⟨hd.take n,h.top,fun e=>?_,?_⟩
 · have hl:=h.len
   rw [e] at hl
   have:n=0:=by simpa using hl.symm
   subst this;simp
 have hv:=h.val
 rw [←hv]
 cases neg with
 | false=>simp
 | true =>
   by_cases h0:n=0
   · subst h0;simp [sV]
   have:0<n:=rG
   simp [this]
theorem TrimTo.num {G:Imm} {a:Option Addr} {c:Nat} {l:List U32} {n:Nat} (h:TrimTo l n) (hd:Digs l) (hl:Arr G a l) (hc:l.length≤c) (neg:Bool):Num G ⟨neg && decide (0<n),subA a c 0 1,n,c⟩ (if neg=true then -rJ l else rJ l):=by
 refine ⟨l.take n,h.len,aP h.1 hc,?_,h.isInt hd neg⟩
 exact Gr hl n
theorem Vp (P s:Int):P*(s % 65536)+65536*P*(s / 65536)=P*s:=by
 have h:=fW s 65536
 have e:65536*P*(s / 65536)=P*(65536*(s / 65536)):=by rw [cI 65536 P,bM]
 rw [e,←bI,h]
def dg (l:List U32) (i:Nat):Int:=(l[((i:Nat):Int).toNat]?.getD default).v
theorem xQ {l:List U32} (h:Digs l) {i:Nat} (hi:i<l.length):0≤dg l i∧dg l i<65536:=h.at rG
theorem Ea {l:List U32} {i:Nat} (hi:l.length≤i):dg l i=0:=by
 unfold dg;rw [aF,cM hi];rfl
theorem tS (l:List U32) (i:Nat):rJ (l.take (i+1))=rJ (l.take i)+pw i*dg l i:=by
 rcases aJ i l.length with h | h
 · exact zG h
 rw [rQ h,rQ rG,Ea h,cC,dB]
theorem Ab {la lb r:List U32} {i:Nat} {cy s:Int} (hri:r.length=i) (hv:rJ (la.take i)+rJ (lb.take i)=rJ r+pw i*cy) (hs:s=cy+dg la i+dg lb i) :
 rJ (la.take (i+1))+rJ (lb.take (i+1))=rJ (r++[⟨s % 65536⟩])+pw (i+1)*(s / 65536):=by
 rw [tS,tS,wR,hri,vF]
 have h:=Vp (pw i) s
 rw [hs,bI,bI] at h
 rw [←hs] at h
 show _=rJ r+pw i*(s % 65536)+65536*pw i*(s / 65536)
 omega
theorem wU {r:List U32} (h:Digs r) (s:Int):Digs (r++[⟨s % 65536⟩]):=h.append (oT ⟨hJ _ rW,dX _ rW⟩)
section
attribute [local irreducible] rJ pw
theorem TF (G:Imm) (a b:Option Addr) (ca cb:Nat) (la lb:List U32) (ha:Arr G a la) (hb:Arr G b lb) (da:Digs la) (db:Digs lb) (h1:la.length≤1073741824) (h2:lb.length≤1073741824) :
 Does Tryz.prog 126 [.slice a la.length ca,.slice b lb.length cb] G [] (fun v G' Ho=>∃ o c r j,v=.slice o r.length c∧OwnA o c r j∧Ho=[(0,o.map (·.block),rV 166 r j)]∧G'=G∧Digs r∧rJ r=rJ la+rJ lb∧r.length≤max la.length lb.length+1):=by
 refine D0 Tryz.func126 Tryz.ntmps126 fun w=>?_
 refine fU 0 (rV 166 ([]:List U32) []) ?_
 refine cJ 22 [] ?_
 refine pU (ι:=Nat×Int×List U32×(Option Addr×Nat×List Value)) (fun (i,cy,r,(o,d,j))=>([(7,.int .i64 (i:Int)),(6,.int .u32 cy),(5,.slice o r.length d),(4,.slice none 0 0),(0,.slice a (List.length la) ca),(1,.slice b (List.length lb) cb)],[(0,o.map (·.block),rV 166 r j)])) (fun (i,cy,r,(o,d,j))=>r.length=i∧(i≤max la.length lb.length∨(i≤max la.length lb.length+1∧cy=0))∧0≤cy∧cy≤1∧Digs r∧rJ (la.take i)+rJ (lb.take i)=rJ r+pw i*cy∧OwnA o d r j) (fun (i,cy,r,(o,d,j))=>2*(max la.length lb.length - i)+cy.toNat) ((0,0,[],(none,0,[]))) (⟨rfl,.inl (aT _),by decide,by decide,pQ,by rw [bQ,bQ,cC,dB,sV];rfl,fF⟩) ⟨rfl,rfl,rfl,rfl,rfl,rfl,trivial⟩ ⟨rfl,trivial⟩ fun ⟨i,cy,r,(o,d,j)⟩=>fun hk=>?_
 obtain ⟨hri,hiM,hc0,hc1,hdr,hv,hob⟩:=hk
 rcases aJ i la.length with hia | hia
 · have da1:0≤(la[(i:Int).toNat]?.getD default).v∧(la[(i:Int).toNat]?.getD default).v<65536:=xQ da hia
   rcases aJ i lb.length with hib | hib
   · have db1:0≤(lb[(i:Int).toNat]?.getD default).v∧(lb[(i:Int).toNat]?.getD default).v<65536:=xQ db hib
     refine aM 8 [] ?_
     refine Fe 12 ?_
     refine aL 30 [1,1] ?_
     refine dI (α:=U32) T.sl87 ?_
     refine fJ 0 T.one166 ?_
     refine aN (lS rfl rfl rG) ?_
     refine aL 17 [1] ?_
     refine dI (α:=U32) T.sl87 ?_
     refine fJ 0 T.one166 ?_
     refine aN (lS rfl rfl rG) ?_
     refine aL 7 [] ?_
     refine aN (jA rfl rfl rG) ?_
     refine fC (α:=U32) 1 [⟨(cy+Go.Sl.U32.v (Option.getD la[Int.toNat (↑i:Int)]? Inhabited.default)+Go.Sl.U32.v (Option.getD lb[Int.toNat (↑i:Int)]? Inhabited.default)) % 65536⟩] rfl T.sl87 T.el166 rfl rfl rfl rfl rfl fun b1=>?_
     refine jW (α:=U32) 0 T.sl87 T.el166 (fZ 1 rfl) fun a1 c1 junk1 ho1=>?_
     refine aL 5 [] ?_
     refine aN (oO rfl rfl rG) ?_
     refine aY 9 [] ?_
     refine cP ((i+1,(cy+(la[(i:Int).toNat]?.getD default).v+(lb[(i:Int).toNat]?.getD default).v) / 65536,_,(a1,c1,junk1))) ?_ ?_
     · exact ⟨by rw [aI,hri];rfl,by omega,by omega,by omega,wU hdr _,Ab hri hv (by rfl),ho1⟩
     show 2*(max la.length lb.length - (i+1))+((cy+(la[(i:Int).toNat]?.getD default).v+(lb[(i:Int).toNat]?.getD default).v) / 65536).toNat<2*(max la.length lb.length - i)+cy.toNat
     omega
   have z:=Ea hib
   refine aM 8 [] ?_
   refine Fe 12 ?_
   refine aL 30 [1,1] ?_
   refine dI (α:=U32) T.sl87 ?_
   refine fJ 0 T.one166 ?_
   refine aN (lS rfl rfl rG) ?_
   refine aL 19 [0] ?_
   refine aN (jA rfl rfl rG) ?_
   refine fC (α:=U32) 1 [⟨(cy+Go.Sl.U32.v (Option.getD la[Int.toNat (↑i:Int)]? Inhabited.default)) % 65536⟩] rfl T.sl87 T.el166 rfl rfl rfl rfl rfl fun b1=>?_
   refine jW (α:=U32) 0 T.sl87 T.el166 (fZ 1 rfl) fun a1 c1 junk1 ho1=>?_
   refine aL 5 [] ?_
   refine aN (oO rfl rfl rG) ?_
   refine aY 9 [] ?_
   refine cP ((i+1,(cy+(la[(i:Int).toNat]?.getD default).v) / 65536,_,(a1,c1,junk1))) ?_ ?_
   · exact ⟨by rw [aI,hri];rfl,by omega,by omega,by omega,wU hdr _,Ab hri hv (by rw [z,dB];rfl),ho1⟩
   show 2*(max la.length lb.length - (i+1))+((cy+(la[(i:Int).toNat]?.getD default).v) / 65536).toNat<2*(max la.length lb.length - i)+cy.toNat
   omega
 have z:=Ea hia
 rcases aJ i lb.length with hib | hib
 · have db1:0≤(lb[(i:Int).toNat]?.getD default).v∧(lb[(i:Int).toNat]?.getD default).v<65536:=xQ db hib
   refine aM 8 [] ?_
   refine jH 12 ?_
   refine aA 10 [] ?_
   refine Fe 18 ?_
   refine aL 36 [1,0,1] ?_
   refine dI (α:=U32) T.sl87 ?_
   refine fJ 0 T.one166 ?_
   refine aN (lS rfl rfl rG) ?_
   refine aL 7 [] ?_
   refine aN (jA rfl rfl rG) ?_
   refine fC (α:=U32) 1 [⟨(cy+Go.Sl.U32.v (Option.getD lb[Int.toNat (↑i:Int)]? Inhabited.default)) % 65536⟩] rfl T.sl87 T.el166 rfl rfl rfl rfl rfl fun b1=>?_
   refine jW (α:=U32) 0 T.sl87 T.el166 (fZ 1 rfl) fun a1 c1 junk1 ho1=>?_
   refine aL 5 [] ?_
   refine aN (oO rfl rfl rG) ?_
   refine aY 9 [] ?_
   refine cP ((i+1,(cy+(lb[(i:Int).toNat]?.getD default).v) / 65536,_,(a1,c1,junk1))) ?_ ?_
   · exact ⟨by rw [aI,hri];rfl,by omega,by omega,by omega,wU hdr _,Ab hri hv (by rw [z,dB];rfl),ho1⟩
   show 2*(max la.length lb.length - (i+1))+((cy+(lb[(i:Int).toNat]?.getD default).v) / 65536).toNat<2*(max la.length lb.length - i)+cy.toNat
   omega
 have z2:=Ea hib
 by_cases hcy:0<cy
 · refine aM 8 [] ?_
   refine jH 12 ?_
   refine aA 10 [] ?_
   refine jH 18 ?_
   refine aL 40 [1,0,0] ?_
   refine aN (jA rfl rfl rG) ?_
   refine fC (α:=U32) 1 [⟨cy % 65536⟩] rfl T.sl87 T.el166 rfl rfl rfl rfl rfl fun b1=>?_
   refine jW (α:=U32) 0 T.sl87 T.el166 (fZ 1 rfl) fun a1 c1 junk1 ho1=>?_
   refine aL 5 [] ?_
   refine aN (oO rfl rfl rG) ?_
   refine aY 9 [] ?_
   refine cP ((i+1,(cy) / 65536,_,(a1,c1,junk1))) ?_ ?_
   · exact ⟨by rw [aI,hri];rfl,by omega,by omega,by omega,wU hdr _,Ab hri hv (by rw [z,z2];omega),ho1⟩
   show 2*(max la.length lb.length - (i+1))+((cy) / 65536).toNat<2*(max la.length lb.length - i)+cy.toNat
   omega
 have e0:cy=0:=rG
 subst e0
 rw [rQ hia,rQ hib,cC,dB] at hv
 refine aM 8 [] ?_
 refine jH 12 ?_
 refine aA 10 [] ?_
 refine jH 18 ?_
 refine aY 20 [0] ?_
 refine pJ [0] ?_
 exact ⟨_,_,_,_,rfl,hob,rfl,rfl,hdr,hv.symm,by omega⟩
theorem yP {la lb r:List U32} {i:Nat} {cy cy' s:Int} (hri:r.length=i) (hv:rJ (la.take i) - rJ (lb.take i)=rJ r - pw i*cy) (hs:s=dg la i - dg lb i - cy+65536*cy') :
 rJ (la.take (i+1)) - rJ (lb.take (i+1))=rJ (r++[⟨s⟩]) - pw (i+1)*cy':=by
 rw [tS,tS,wR,hri,vF]
 have h:pw i*s=pw i*dg la i - pw i*dg lb i - pw i*cy+65536*pw i*cy':=by
  rw [hs,bI,iF,iF,←bM,cI (pw i) 65536]
 show _=rJ r+pw i*s - 65536*pw i*cy'
 omega
theorem Zb {la lb r:List U32} {n:Nat} {cy:Int} (hn:n=la.length) (hb:lb.length≤la.length) (hle:rJ lb≤rJ la) (hri:r.length=n) (hd:Digs r) (hc:0≤cy∧cy≤1) (hv:rJ (la.take n) - rJ (lb.take n)=rJ r - pw n*cy):rJ r=rJ la - rJ lb:=by
 rw [rQ rG,rQ rG] at hv
 have h:=uU hd
 rw [hri] at h
 have hcy:cy=0:=by
  rcases (show cy=0∨cy=1 by omega) with h1 | h1
  · exact h1
  rw [h1,fL] at hv;omega
 rw [hcy,cC] at hv
 omega
theorem LZ (G:Imm) (a b:Option Addr) (ca cb:Nat) (la lb:List U32) (ha:Arr G a la) (hb:Arr G b lb) (da:Digs la) (db:Digs lb) (h1:la.length≤1073741824) (h2:lb.length≤la.length) (hle:rJ lb≤rJ la) :
 Does Tryz.prog 128 [.slice a la.length ca,.slice b lb.length cb] G [] (fun v G' Ho=>∃ o c r j,v=.slice o r.length c∧OwnA o c r j∧Ho=[(0,o.map (·.block),rV 166 r j)]∧G'=G∧Digs r∧rJ r=rJ la - rJ lb∧r.length=la.length):=by
 refine D0 Tryz.func128 Tryz.ntmps128 fun w=>?_
 refine fU 0 (rV 166 ([]:List U32) []) ?_
 refine cJ 22 [] ?_
 refine pU (ι:=Nat×Int×List U32×(Option Addr×Nat×List Value)) (fun (i,cy,r,(o,d,j))=>([(7,.int .i64 (i:Int)),(6,.int .u32 cy),(5,.slice o r.length d),(4,.slice none 0 0),(0,.slice a (List.length la) ca),(1,.slice b (List.length lb) cb)],[(0,o.map (·.block),rV 166 r j)])) (fun (i,cy,r,(o,d,j))=>r.length=i∧i≤la.length∧0≤cy∧cy≤1∧Digs r∧rJ (la.take i) - rJ (lb.take i)=rJ r - pw i*cy∧OwnA o d r j) (fun (i,cy,r,(o,d,j))=>la.length - i) ((0,0,[],(none,0,[]))) (⟨rfl,aT _,by decide,by decide,pQ,by rw [bQ,bQ,cC,mG,Int.sub_self,sV],fF⟩) ⟨rfl,rfl,rfl,rfl,rfl,rfl,trivial⟩ ⟨rfl,trivial⟩ fun ⟨i,cy,r,(o,d,j)⟩=>fun hk=>?_
 obtain ⟨hri,hiM,hc0,hc1,hdr,hv,hob⟩:=hk
 rcases aJ i la.length with hia | hia
 · have da1:0≤(la[(i:Int).toNat]?.getD default).v∧(la[(i:Int).toNat]?.getD default).v<65536:=xQ da hia
   rcases aJ i lb.length with hib | hib
   · have db1:0≤(lb[(i:Int).toNat]?.getD default).v∧(lb[(i:Int).toNat]?.getD default).v<65536:=xQ db hib
     by_cases hlt:(la[((i:Nat):Int).toNat]?.getD default).v<cy+(lb[((i:Nat):Int).toNat]?.getD default).v
     · refine aM 34 [1,1] ?_
       refine dI (α:=U32) T.sl87 ?_
       refine fJ 0 T.one166 ?_
       refine aN (lS rfl rfl rG) ?_
       refine aL 12 [] ?_
       refine dI (α:=U32) T.sl87 ?_
       refine fJ 0 T.one166 ?_
       refine aL 15 [1] ?_
       refine aN (lS rfl rfl rG) ?_
       refine aL 11 [] ?_
       refine aN (rB rfl rfl rG) ?_
       refine fC (α:=U32) 1 [⟨Go.Sl.U32.v (Option.getD la[Int.toNat (↑i:Int)]? Inhabited.default)+65536 - (cy+Go.Sl.U32.v (Option.getD lb[Int.toNat (↑i:Int)]? Inhabited.default))⟩] rfl T.sl87 T.el166 rfl rfl rfl rfl rfl fun b1=>?_
       refine jW (α:=U32) 0 T.sl87 T.el166 (fZ 1 rfl) fun a1 c1 junk1 ho1=>?_
       refine aY 9 [] ?_
       refine cP ((i+1,1,_,(a1,c1,junk1))) ?_ ?_
       · exact ⟨by rw [aI,hri];rfl,by omega,by decide,by decide,hdr.append (oT rG),yP hri hv (by unfold dg;omega),ho1⟩
       show la.length - (i+1)<la.length - i
       omega
     refine aM 34 [1,1] ?_
     refine dI (α:=U32) T.sl87 ?_
     refine fJ 0 T.one166 ?_
     refine aN (lS rfl rfl rG) ?_
     refine aL 12 [] ?_
     refine dI (α:=U32) T.sl87 ?_
     refine fJ 0 T.one166 ?_
     refine aL 18 [0] ?_
     refine aN (rB rfl rfl rG) ?_
     refine fC (α:=U32) 1 [⟨Go.Sl.U32.v (Option.getD la[Int.toNat (↑i:Int)]? Inhabited.default) - (cy+Go.Sl.U32.v (Option.getD lb[Int.toNat (↑i:Int)]? Inhabited.default))⟩] rfl T.sl87 T.el166 rfl rfl rfl rfl rfl fun b1=>?_
     refine jW (α:=U32) 0 T.sl87 T.el166 (fZ 1 rfl) fun a1 c1 junk1 ho1=>?_
     refine aY 9 [] ?_
     refine cP ((i+1,0,_,(a1,c1,junk1))) ?_ ?_
     · exact ⟨by rw [aI,hri];rfl,by omega,by decide,by decide,hdr.append (oT rG),yP hri hv (by unfold dg;omega),ho1⟩
     show la.length - (i+1)<la.length - i
     omega
   have z:=Ea hib
   by_cases hlt:(la[((i:Nat):Int).toNat]?.getD default).v<cy
   · refine aM 41 [1,0] ?_
     refine dI (α:=U32) T.sl87 ?_
     refine fJ 0 T.one166 ?_
     refine aL 15 [1] ?_
     refine aN (lS rfl rfl rG) ?_
     refine aL 11 [] ?_
     refine aN (rB rfl rfl rG) ?_
     refine fC (α:=U32) 1 [⟨Go.Sl.U32.v (Option.getD la[Int.toNat (↑i:Int)]? Inhabited.default)+65536 - cy⟩] rfl T.sl87 T.el166 rfl rfl rfl rfl rfl fun b1=>?_
     refine jW (α:=U32) 0 T.sl87 T.el166 (fZ 1 rfl) fun a1 c1 junk1 ho1=>?_
     refine aY 9 [] ?_
     refine cP ((i+1,1,_,(a1,c1,junk1))) ?_ ?_
     · exact ⟨by rw [aI,hri];rfl,by omega,by decide,by decide,hdr.append (oT rG),yP hri hv (by rw [z];unfold dg;omega),ho1⟩
     show la.length - (i+1)<la.length - i
     omega
   refine aM 41 [1,0] ?_
   refine dI (α:=U32) T.sl87 ?_
   refine fJ 0 T.one166 ?_
   refine aL 18 [0] ?_
   refine aN (rB rfl rfl rG) ?_
   refine fC (α:=U32) 1 [⟨Go.Sl.U32.v (Option.getD la[Int.toNat (↑i:Int)]? Inhabited.default) - cy⟩] rfl T.sl87 T.el166 rfl rfl rfl rfl rfl fun b1=>?_
   refine jW (α:=U32) 0 T.sl87 T.el166 (fZ 1 rfl) fun a1 c1 junk1 ho1=>?_
   refine aY 9 [] ?_
   refine cP ((i+1,0,_,(a1,c1,junk1))) ?_ ?_
   · exact ⟨by rw [aI,hri];rfl,by omega,by decide,by decide,hdr.append (oT rG),yP hri hv (by rw [z];unfold dg;omega),ho1⟩
   show la.length - (i+1)<la.length - i
   omega
 refine bG 22 [0] ?_
 refine pJ [0] ?_
 exact ⟨_,_,_,_,rfl,hob,rfl,rfl,hdr,Zb rG h2 hle hri hdr ⟨hc0,hc1⟩ hv,by omega⟩
end
theorem Ac (l:List U32) {m:Nat} (h:m≤l.length):rJ l=rJ (l.take m)+pw m*rJ (l.drop m):=by
 have e:rJ l=rJ (l.take m++l.drop m):=by rw [cU]
 rw [e,xO,bC,cS h]
theorem MA {x y:U32} (h:x.v=y.v):x=y:=by cases x;cases y;simp only at h;rw [h]
theorem Ly {la lb:List U32} {k:Nat} (hn:la.length=lb.length) (h:∀ j,k≤j→j<la.length→dg la j=dg lb j):la.drop k=lb.drop k:=by
 apply fG
 intro j
 rw [eR,eR]
 rcases aJ (k+j) la.length with hj | hj
 · have:=h (k+j) rG hj
   unfold dg at this
   rw [aF,aC hj,aC rG] at this
   rw [aC hj,aC rG];exact congrArg some (MA this)
 rw [cM hj,cM rG]
theorem Vq {la lb:List U32} {k:Nat} (hn:la.length=lb.length) (hk:k<la.length) (da:Digs la) (db:Digs lb) (h:∀ j,k+1≤j→j<la.length→dg la j=dg lb j) (hlt:dg la k<dg lb k):rJ la<rJ lb:=by
 have e1:=Ac la (m:=k+1) rG
 have e2:=Ac lb (m:=k+1) rG
 rw [tS,Ly hn h] at e1
 rw [tS] at e2
 have h1:=uU (da.take k)
 have h2:=sQ (db.take k)
 rw [bC,cS rG] at h1
 have h3:=aW (show dg la k+1≤dg lb k by omega) (bK (uW k))
 rw [bI,fL] at h3
 omega
section
attribute [local irreducible] rJ pw sB
theorem DM (G:Imm) (a b:Option Addr) (ca cb:Nat) (la lb:List U32) (ha:Arr G a la) (hb:Arr G b lb) (da:Digs la) (db:Digs lb) (ta:Top la) (tb:Top lb) (h1:la.length≤1073741824) (h2:lb.length≤1073741824) :
 Does Tryz.prog 127 [.slice a la.length ca,.slice b lb.length cb] G [] (fun v G' Ho=>v=.int .i64 (sB (rJ la) (rJ lb))∧G'=G∧Ho=[]):=by
 refine D0 Tryz.func127 Tryz.ntmps127 fun w=>?_
 by_cases hn:la.length=lb.length
 · refine cJ 28 [0] ?_
   refine fS (ι:=Nat) (fun k=>([(5,.int .i64 ((k:Int) - 1)),(0,.slice a (List.length la) ca),(1,.slice b (List.length lb) cb)],[])) (fun k=>k≤la.length∧∀ j,k≤j→j<la.length→dg la j=dg lb j) (fun k=>k) (la.length) (⟨aH _,fun j h1 h2=>absurd h2 rG⟩) fun k=>fun hk=>?_
   obtain ⟨hk1,hz⟩:=hk
   rcases eQ k with rfl | hpos
   · refine bG 19 [0] ?_
     refine bT ?_
     have e:la=lb:=by
      have:=Ly (k:=0) hn hz
      simpa using this
     exact ⟨by rw [e,zZ rfl],rfl,rfl⟩
   have e1:(la[((k:Int) - 1).toNat]?.getD default).v=dg la (k - 1):=by
    unfold dg;rw [show (((k:Nat):Int) - 1).toNat=((k - 1:Nat):Int).toNat by omega]
   have e2:(lb[((k:Int) - 1).toNat]?.getD default).v=dg lb (k - 1):=by
    unfold dg;rw [show (((k:Nat):Int) - 1).toNat=((k - 1:Nat):Int).toNat by omega]
   have hz':∀ j,(k - 1)+1≤j→j<la.length→dg la j=dg lb j:=fun j h1 h2=>hz j rG h2
   refine cJ 14 [1] ?_
   refine dT [] [] T.mixed [[0],[1]] ?_
   refine iM (α:=U32) 2 T.sl87 ?_
   refine nW 3 [] 0 T.one166 ?_
   refine eD [[4],[5]] ?_
   refine iM (α:=U32) 6 T.sl87 ?_
   refine nW 7 [] 0 T.one166 ?_
   refine eD [[8]] ?_
   refine dY ?_
   refine cB ?_
   refine dL (fun hc1=>?_) fun hc1=>?_
   refine bG 12 [] ?_
   refine bT ?_
   rotate_left
   refine cJ 3 [] ?_
   refine dT [] [] T.mixed [[0],[1]] ?_
   refine iM (α:=U32) 2 T.sl87 ?_
   refine nW 3 [] 0 T.one166 ?_
   refine eD [[4],[5]] ?_
   refine iM (α:=U32) 6 T.sl87 ?_
   refine nW 7 [] 0 T.one166 ?_
   refine eD [[8]] ?_
   refine dY ?_
   refine cB ?_
   refine dL (fun hc2=>?_) fun hc2=>?_
   refine bG 11 [] ?_
   refine bT ?_
   rotate_left
   refine bG 8 [] ?_
   rotate_left
   · exact ⟨by rw [wA (Vq hn rG da db hz' rG)],rfl,rfl⟩
   · exact ⟨by rw [wQ (Vq hn.symm rG db da (fun j h1 h2=>(hz' j h1 rG).symm) rG)],rfl,rfl⟩
   refine dC 5 rfl (show _=Value.int .i64 (((k - 1:Nat):Int) - 1) by congr 1;omega) ?_
   refine cP (k - 1) ?_ ?_
   · refine ⟨by omega,fun j h1 h2=>?_⟩
     rcases aJ j k with h3 | h3
     · have e:j=k - 1:=rG
       rw [e];omega
     exact hz j h3 h2
   omega
 by_cases hlt:la.length<lb.length
 · refine bG 35 [1,1] ?_
   refine bT ?_
   exact ⟨by rw [wA (xB da db tb hlt)],rfl,rfl⟩
 refine bG 36 [1,0] ?_
 refine bT ?_
 exact ⟨by rw [wQ (xB db da ta rG)],rfl,rfl⟩
theorem MB (G:Imm) (neg:Bool) (a:Option Addr) (c:Nat) (l:List U32) (z:Int) (h:IsInt neg l z) (h1:l.length≤1073741824) :
 Does Tryz.prog 112 [.agg #[.bool neg,.slice a l.length c]] G [] (fun v G' Ho=>v=.int .i64 (Aa z)∧G'=G∧Ho=[]):=by
 have hz:=h.zero_iff
 have hn:=h.neg_iff
 refine D0 Tryz.func112 Tryz.ntmps112 fun w=>?_
 by_cases h0:l.length=0
 · have hz0:=hz.1 h0
   refine aM 2 [] ?_
   refine cV 0 fun b1=>?_
   refine aY 20 [0,1] ?_
   refine bT ?_
   exact ⟨by rw [hz0];rfl,rfl,rfl⟩
 have hz0:z≠0:=fun e=>h0 (hz.2 e)
 by_cases hs:z<0
 · rw [hn,cR hs]
   refine aM 2 [] ?_
   refine cV 0 fun b1=>?_
   refine aY 30 [0,0,0,1] ?_
   refine bT ?_
   exact ⟨by unfold Aa;rw [aK hz0,aR hs],rfl,rfl⟩
 rw [hn,bF hs]
 refine aM 2 [] ?_
 refine cV 0 fun b1=>?_
 refine aY 31 [0,0,0,0] ?_
 refine bT ?_
 exact ⟨by unfold Aa;rw [aK hz0,aK hs],rfl,rfl⟩
theorem TG (G:Imm) (n1 n2:Bool) (a b:Option Addr) (ca cb:Nat) (la lb:List U32) (x y:Int) (ha:Arr G a la) (hb:Arr G b lb) (hx:IsInt n1 la x) (hy:IsInt n2 lb y) (h1:la.length≤1073741824) (h2:lb.length≤1073741824) :
 Does Tryz.prog 180 [.agg #[.bool n1,.slice a la.length ca],.agg #[.bool n2,.slice b lb.length cb]] G [] (fun v G' Ho=>v=.int .i64 (sB x y)∧G'=G∧Ho=[]):=by
 have da:=hx.digs
 have db:=hy.digs
 have ta:=hx.top
 have tb:=hy.top
 have va:=hx.abs
 have vb:=hy.abs
 have cs:∀ u v:Int,u<v→sB u v=-1:=fun u v h=>wA h
 have cg:∀ u v:Int,v<u→sB u v=1:=fun u v h=>wQ h
 refine D0 Tryz.func180 Tryz.ntmps180 fun w=>?_
 have sx:(Aa x=-1∧x<0)∨(Aa x=0∧x=0)∨(Aa x=1∧0<x):=by
  rcases mI x 0 with h | h | h
  · exact .inl ⟨DG h,h⟩
  · exact .inr (.inl ⟨DI h,h⟩)
  exact .inr (.inr ⟨DH h,h⟩)
 have sy:(Aa y=-1∧y<0)∨(Aa y=0∧y=0)∨(Aa y=1∧0<y):=by
  rcases mI y 0 with h | h | h
  · exact .inl ⟨DG h,h⟩
  · exact .inr (.inl ⟨DI h,h⟩)
  exact .inr (.inr ⟨DH h,h⟩)
 refine aM 2 [] ?_
 refine cV 0 fun b1=>?_
 refine cV 1 fun b2=>?_
 refine bR 4 [] ?_
 refine dT [0,1] [] T.mixed [[0,0],[2,1]] ?_
 refine fE 1 ?_
 refine cG rfl (MB _ _ _ _ _ _ rH rH) ?_
 refine bO 3 ?_
 refine cG rfl (MB _ _ _ _ _ _ rH rH) ?_
 refine eE ?_
 refine eD [[4],[5]] ?_
 refine dY ?_
 refine oV 9 [] ?_
 refine dL (fun hc1=>?_) fun hc1=>?_
 refine cJ 8 [] ?_
 refine dL (fun hc2=>?_) fun hc2=>?_
 refine bG 8 [] ?_
 refine bT ?_
 rotate_left
 refine bG 9 [] ?_
 refine bT ?_
 rotate_left
 refine cJ 9 [] ?_
 refine dL (fun hc2=>?_) fun hc2=>?_
 refine aM 6 [1,0] ?_
 refine cG rfl (DM _ _ _ _ _ _ _ rH rH rH rH rH rH rH rH) ?_
 refine aY 5 [] ?_
 refine bT ?_
 rotate_left
 refine aM 8 [0,1] ?_
 refine cG rfl (DM _ _ _ _ _ _ _ rH rH rH rH rH rH rH rH) ?_
 refine aY 4 [] ?_
 refine bT ?_
 rotate_left
 · exact ⟨by rw [cs x y rG],rfl,rfl⟩
 · exact ⟨by rw [cg x y rG],rfl,rfl⟩
 · exact ⟨by rw [yO (x:=rJ lb) (y:=rJ la) (u:=x) (v:=y) rG rG],rfl,rfl⟩
 exact ⟨by rw [yO (x:=rJ la) (y:=rJ lb) (u:=x) (v:=y) rG rG],rfl,rfl⟩
end
section
attribute [local irreducible] rJ pw sB
theorem TH (G:Imm) (neg:Bool) (a:Option Addr) (c:Nat) (l:List U32) (z:Int) (ha:Arr G a l) (h:IsInt neg l z) (h1:l.length≤1073741824) (hc:l.length≤c) :
 Does Tryz.prog 116 [.agg #[.bool neg,.slice a l.length c]] G [] (fun v G' Ho=>∃ r:IV,v=.agg #[.bool r.neg,.slice r.a r.n r.c]∧Num G r (-z)∧G'=G∧Ho=[]):=by
 refine D0 Tryz.func116 Tryz.ntmps116 fun w=>?_
 refine aM 2 [] ?_
 refine cV 0 fun b1=>?_
 refine aU 1 rfl T.zero93 fun b2=>?_
 refine aL 9 [0,0] ?_
 refine bU 2 rfl (vI _ _ _ _ _ rH rG rH) fun v1 G1 Ho1 hle1 hp=>?_
 obtain ⟨tn1,rfl,htr1,rfl,rfl⟩:=hp
 refine aY 4 [1] ?_
 refine dQ (.inr rfl) (Ho:=Hp.only _ []) rfl (.agg 1 rfl rfl T.agg93) (bP _ _) ?_
 refine ⟨⟨!neg && decide (0<tn1),subA a c 0 1,tn1,c⟩,rfl,?_,rfl,rfl⟩
 have e:=htr1.num h.digs ha hc (!neg)
 have e2:(if (!neg)=true then -rJ l else rJ l)=-z:=by
  rw [h.val];cases neg <;> simp
 rw [e2] at e;exact e
theorem TI (G:Imm) (neg:Bool) (a:Option Addr) (c:Nat) (l:List U32) (z:Int) (ha:Arr G a l) (h:IsInt neg l z) (h1:l.length≤1073741824) (hc:l.length≤c) :
 Does Tryz.prog 113 [.agg #[.bool neg,.slice a l.length c]] G [] (fun v G' Ho=>∃ r:IV,v=.agg #[.bool r.neg,.slice r.a r.n r.c]∧Num G r (z.natAbs:Int)∧G'=G∧Ho=[]):=by
 refine D0 Tryz.func113 Tryz.ntmps113 fun w=>?_
 refine aM 2 [] ?_
 refine cV 0 fun b1=>?_
 refine aU 1 rfl T.zero93 fun b2=>?_
 refine aL 6 [0] ?_
 refine bU 2 rfl (vI _ _ _ _ _ rH rG rH) fun v1 G1 Ho1 hle1 hp=>?_
 obtain ⟨tn1,rfl,htr1,rfl,rfl⟩:=hp
 refine aY 4 [1] ?_
 refine dQ (.inr rfl) (Ho:=Hp.only _ []) rfl (.agg 1 rfl rfl T.agg93) (bP _ _) ?_
 refine ⟨⟨false && decide (0<tn1),subA a c 0 1,tn1,c⟩,rfl,?_,rfl,rfl⟩
 have e:=htr1.num h.digs ha hc false
 rw [aK (by decide),h.abs] at e
 exact e
theorem Lz {a b:Nat} (h:pw a<pw b):a<b:=by
 rcases aJ a b with h1 | h1
 · exact h1
 have:=Lv h1;omega
theorem Vr {r:List U32} {u m:Int} (h:rJ r+pw r.length*u=m):rJ (r++[(⟨u % 65536⟩:U32)])+pw (r++[(⟨u % 65536⟩:U32)]).length*(u / 65536)=m:=by
 rw [wR,aI,gM,vF]
 have:=Vp (pw r.length) u
 show rJ r+pw r.length*(u % 65536)+65536*pw r.length*(u / 65536)=m
 omega
theorem DN {r:List U32} {u m:Int} (h:rJ r+pw r.length*u=m) (hd:Digs r) (hu:0<u) (hm:m≤9223372036854775808):r.length<4:=by
 have h1:=sQ hd
 have h2:=aW (show (1:Int)≤u by omega) (bK (uW r.length))
 refine Lz ?_
 have h3:pw 4=18446744073709551616:=by unfold pw;decide
 omega
theorem MC (G:Imm) (n:Int) (hn:-9223372036854775808≤n∧n≤9223372036854775807) :
 Does Tryz.prog 59 [.int .i64 n] G [] (fun v G' Ho=>∃ r:IV,v=.agg #[.bool r.neg,.slice r.a r.n r.c]∧Num G' r n∧Ho=[]):=by
 refine D0 Tryz.func59 Tryz.ntmps59 fun w=>?_
 refine fU 0 (rV 166 ([]:List U32) []) ?_
 by_cases hneg:n<0
 · refine aM 2 [] ?_
   refine aU 1 rfl T.zero93 fun b1=>?_
   refine aL 5 [] ?_
   refine aN (jX rfl T.u165 rfl) ?_
   refine aL 13 [1] ?_
   refine aN (mA rfl) ?_
   refine bR 10 [] ?_
   refine iP 3 rfl (show _=Value.int .u64 (-n) by rw [Qk ⟨hn.1,hneg⟩]) ?_
   refine pU (ι:=Int×List U32×(Option Addr×Nat×List Value)) (fun (u,r,(o,d,j))=>([(3,.int .u64 u),(4,.slice o r.length d),(2,.pointer (some ⟨b1,0,none⟩)),(0,.int .i64 n)],[(0,o.map (·.block),rV 166 r j),(1,some b1,.cells #[.bool Bool.false,.slice none 0 0] 93)])) (fun (u,r,(o,d,j))=>0≤u∧u≤9223372036854775808∧Digs r∧rJ r+pw r.length*u=n.natAbs∧r.length≤4∧OwnA o d r j) (fun (u,r,(o,d,j))=>u.toNat) ((-n,[],(none,0,[]))) (⟨by omega,by omega,pQ,by rw [sV,cT,Cc];omega,by decide,fF⟩) ⟨rfl,rfl,rfl,rfl,trivial⟩ ⟨rfl,rfl,trivial⟩ fun ⟨u,r,(o,d,j)⟩=>fun hk=>?_
   obtain ⟨hu0,hu1,hdr,hv,hrl,hob⟩:=hk
   by_cases hu:0<u
   · have hl4:=DN hv hdr hu rG
     refine aM 15 [1] ?_
     refine aN (jA rfl rfl rG) ?_
     refine aN (gB rfl T.u166 rfl rG) ?_
     refine fC (α:=U32) 2 [⟨u % 65536⟩] rfl T.sl87 T.el166 rfl rfl rfl rfl rfl fun b2=>?_
     refine jW (α:=U32) 0 T.sl87 T.el166 (fZ 2 rfl) fun a1 c1 junk1 ho1=>?_
     refine aL 5 [] ?_
     refine aN (nN rfl rfl rG) ?_
     refine aY 3 [] ?_
     refine cP ((u / 65536,_,(a1,c1,junk1))) ?_ ?_
     · exact ⟨by omega,by omega,wU hdr _,Vr hv,by rw [aI];show r.length+1≤4;omega,ho1⟩
     show (u / 65536).toNat<u.toNat
     omega
   have hu:u=0:=rG
   subst hu
   rw [cC,dB] at hv
   refine aM 18 [0] ?_
   have hcap:=hob.le
   refine cN 0 rfl hob fun G1 hle1 hA=>?_
   refine bU 2 rfl (vI _ _ _ _ _ rH rG rH) fun v2 G2 Ho2 hle2 hp=>?_
   obtain ⟨tn2,rfl,htr2,rfl,rfl⟩:=hp
   refine aY 4 [1] ?_
   refine dQ (.inr rfl) (Ho:=Hp.only _ []) rfl (.agg 1 rfl rfl T.agg93) (bP _ _) ?_
   refine ⟨⟨decide (n<0) && decide (0<tn2),subA o d 0 1,tn2,d⟩,rfl,?_,rfl⟩
   have e:=htr2.num hdr hA hcap (decide (n<0))
   have e2:(if decide (n<0)=true then -rJ r else rJ r)=n:=by
    rw [hv];by_cases h:n<0
    · rw [aR (by simpa using h)];omega
    rw [aK (by simpa using h)];omega
   rw [e2] at e;exact e
 refine aM 2 [] ?_
 refine aU 1 rfl T.zero93 fun b1=>?_
 refine aL 5 [] ?_
 refine aN (bZ rfl T.u165 rfl rG) ?_
 refine bR 20 [0] ?_
 refine pU (ι:=Int×List U32×(Option Addr×Nat×List Value)) (fun (u,r,(o,d,j))=>([(3,.int .u64 u),(4,.slice o r.length d),(2,.pointer (some ⟨b1,0,none⟩)),(0,.int .i64 n)],[(0,o.map (·.block),rV 166 r j),(1,some b1,.cells #[.bool Bool.false,.slice none 0 0] 93)])) (fun (u,r,(o,d,j))=>0≤u∧u≤9223372036854775808∧Digs r∧rJ r+pw r.length*u=n.natAbs∧r.length≤4∧OwnA o d r j) (fun (u,r,(o,d,j))=>u.toNat) ((n,[],(none,0,[]))) (⟨by omega,by omega,pQ,by rw [sV,cT,Cc];omega,by decide,fF⟩) ⟨rfl,rfl,rfl,rfl,trivial⟩ ⟨rfl,rfl,trivial⟩ fun ⟨u,r,(o,d,j)⟩=>fun hk=>?_
 obtain ⟨hu0,hu1,hdr,hv,hrl,hob⟩:=hk
 by_cases hu:0<u
 · have hl4:=DN hv hdr hu rG
   refine aM 15 [1] ?_
   refine aN (jA rfl rfl rG) ?_
   refine aN (gB rfl T.u166 rfl rG) ?_
   refine fC (α:=U32) 2 [⟨u % 65536⟩] rfl T.sl87 T.el166 rfl rfl rfl rfl rfl fun b2=>?_
   refine jW (α:=U32) 0 T.sl87 T.el166 (fZ 2 rfl) fun a1 c1 junk1 ho1=>?_
   refine aL 5 [] ?_
   refine aN (nN rfl rfl rG) ?_
   refine aY 3 [] ?_
   refine cP ((u / 65536,_,(a1,c1,junk1))) ?_ ?_
   · exact ⟨by omega,by omega,wU hdr _,Vr hv,by rw [aI];show r.length+1≤4;omega,ho1⟩
   show (u / 65536).toNat<u.toNat
   omega
 have hu:u=0:=rG
 subst hu
 rw [cC,dB] at hv
 refine aM 18 [0] ?_
 have hcap:=hob.le
 refine cN 0 rfl hob fun G1 hle1 hA=>?_
 refine bU 2 rfl (vI _ _ _ _ _ rH rG rH) fun v2 G2 Ho2 hle2 hp=>?_
 obtain ⟨tn2,rfl,htr2,rfl,rfl⟩:=hp
 refine aY 4 [1] ?_
 refine dQ (.inr rfl) (Ho:=Hp.only _ []) rfl (.agg 1 rfl rfl T.agg93) (bP _ _) ?_
 refine ⟨⟨decide (n<0) && decide (0<tn2),subA o d 0 1,tn2,d⟩,rfl,?_,rfl⟩
 have e:=htr2.num hdr hA hcap (decide (n<0))
 have e2:(if decide (n<0)=true then -rJ r else rJ r)=n:=by
  rw [hv];by_cases h:n<0
  · rw [aR (by simpa using h)];omega
  rw [aK (by simpa using h)];omega
 rw [e2] at e;exact e
theorem c74 (G:Imm) (n1 n2:Bool) (a b:Option Addr) (ca cb:Nat) (la lb:List U32) (x y:Int) (ha:Arr G a la) (hb:Arr G b lb) (hx:IsInt n1 la x) (hy:IsInt n2 lb y) (h1:la.length≤1073741824) (h2:lb.length≤1073741824) :
 Does Tryz.prog 74 [.agg #[.bool n1,.slice a la.length ca],.agg #[.bool n2,.slice b lb.length cb]] G [] (fun v G' Ho=>∃ r:IV,v=.agg #[.bool r.neg,.slice r.a r.n r.c]∧Num G' r (x+y)∧Ho=[]):=by
 have da:=hx.digs
 have db:=hy.digs
 have ta:=hx.top
 have tb:=hy.top
 refine D0 Tryz.func74 Tryz.ntmps74 fun w=>?_
 by_cases hs:n1=n2
 · refine aM 2 [] ?_
   refine cV 0 fun b1=>?_
   refine cV 1 fun b2=>?_
   refine aU 2 rfl T.zero93 fun b3=>?_
   refine aL 9 [0,1] ?_
   refine aN (pV T.u4 rfl rfl) ?_
   refine bR 4 [1] ?_
   refine dT [0,1,2] [(2,8)] T.mixed [[0],[1,0],[2],[3,0],[4],[5,1]] ?_
   refine fE 6 ?_
   refine bU 3 rfl (TF _ _ _ _ _ _ _ rH rH rH rH rH rH) fun v1 G1 Ho1 hle1 hp=>?_
   obtain ⟨po1,pc1,pr1,pj1,rfl,hpo1,rfl,rfl,hpd1,hpv1,hpl1⟩:=hp
   refine bO 7 ?_
   have hcap:=hpo1.le
   refine cN 3 rfl hpo1 fun G9 hle9 hA=>?_
   refine bU 4 rfl (vI _ _ _ _ _ rH rG rH) fun v2 G2 Ho2 hle2 hp=>?_
   obtain ⟨tn2,rfl,htr2,rfl,rfl⟩:=hp
   refine bO 8 ?_
   refine aA 1 [2] ?_
   refine fO ?_
   refine iG 3 [] ?_
   refine dQ (.inr rfl) (Ho:=Hp.only _ []) rfl (.agg 2 rfl rfl T.agg93) (bP _ _) ?_
   refine ⟨⟨n1 && decide (0<tn2),subA po1 pc1 0 1,tn2,pc1⟩,rfl,?_,rfl⟩
   have e:=htr2.num hpd1 hA hcap n1
   have e2:(if n1=true then -rJ pr1 else rJ pr1)=x+y:=by
    rw [hpv1,hx.val,hy.val]
    revert hs
    cases n1 <;> cases n2 <;> simp <;> omega
   rw [e2] at e;exact e
 by_cases hle:rJ lb≤rJ la
 · have hcmp:0≤sB (rJ la) (rJ lb):=by
    rcases qF hle with h | h
    · rw [wQ h];decide
    rw [zZ h.symm];decide
   have hll:lb.length≤la.length:=by
    rcases aJ la.length lb.length with h | h
    · have:=xB da db tb h;omega
    exact h
   refine aM 2 [] ?_
   refine cV 0 fun b1=>?_
   refine cV 1 fun b2=>?_
   refine aU 2 rfl T.zero93 fun b3=>?_
   refine aL 9 [0,1] ?_
   refine aN (pV T.u4 rfl rfl) ?_
   refine aL 12 [0,0,1] ?_
   refine cG rfl (DM _ _ _ _ _ _ _ rH rH rH rH rH rH rH rH) ?_
   refine bR 5 [1] ?_
   refine dT [0,1,2] [(2,8)] T.mixed [[0],[1,0],[2],[3,0],[4],[5,1]] ?_
   refine fE 6 ?_
   refine bU 3 rfl (LZ _ _ _ _ _ _ _ rH rH rH rH rH rH rH) fun v1 G1 Ho1 hle1 hp=>?_
   obtain ⟨po1,pc1,pr1,pj1,rfl,hpo1,rfl,rfl,hpd1,hpv1,hpl1⟩:=hp
   refine bO 7 ?_
   have hcap:=hpo1.le
   refine cN 3 rfl hpo1 fun G9 hle9 hA=>?_
   refine bU 4 rfl (vI _ _ _ _ _ rH rG rH) fun v2 G2 Ho2 hle2 hp=>?_
   obtain ⟨tn2,rfl,htr2,rfl,rfl⟩:=hp
   refine bO 8 ?_
   refine aA 1 [2] ?_
   refine fO ?_
   refine iG 3 [] ?_
   refine dQ (.inr rfl) (Ho:=Hp.only _ []) rfl (.agg 2 rfl rfl T.agg93) (bP _ _) ?_
   refine ⟨⟨n1 && decide (0<tn2),subA po1 pc1 0 1,tn2,pc1⟩,rfl,?_,rfl⟩
   have e:=htr2.num hpd1 hA hcap n1
   have e2:(if n1=true then -rJ pr1 else rJ pr1)=x+y:=by
    rw [hpv1,hx.val,hy.val]
    revert hs
    cases n1 <;> cases n2 <;> simp <;> omega
   rw [e2] at e;exact e
 have hcmp:¬0≤sB (rJ la) (rJ lb):=by rw [wA rG];decide
 have hge9:rJ la≤rJ lb:=rG
 have hll:la.length≤lb.length:=by
  rcases aJ lb.length la.length with h | h
  · have:=xB db da ta h;omega
  exact h
 refine aM 2 [] ?_
 refine cV 0 fun b1=>?_
 refine cV 1 fun b2=>?_
 refine aU 2 rfl T.zero93 fun b3=>?_
 refine aL 9 [0,1] ?_
 refine aN (pV T.u4 rfl rfl) ?_
 refine aL 12 [0,0,1] ?_
 refine cG rfl (DM _ _ _ _ _ _ _ rH rH rH rH rH rH rH rH) ?_
 refine bR 7 [0] ?_
 refine dT [0,1,2] [(2,8)] T.mixed [[0],[1,1],[2],[3,1],[4],[5,0]] ?_
 refine fE 6 ?_
 refine bU 3 rfl (LZ _ _ _ _ _ _ _ rH rH rH rH rH rH rH) fun v1 G1 Ho1 hle1 hp=>?_
 obtain ⟨po1,pc1,pr1,pj1,rfl,hpo1,rfl,rfl,hpd1,hpv1,hpl1⟩:=hp
 refine bO 7 ?_
 have hcap:=hpo1.le
 refine cN 3 rfl hpo1 fun G9 hle9 hA=>?_
 refine bU 4 rfl (vI _ _ _ _ _ rH rG rH) fun v2 G2 Ho2 hle2 hp=>?_
 obtain ⟨tn2,rfl,htr2,rfl,rfl⟩:=hp
 refine bO 8 ?_
 refine aA 1 [2] ?_
 refine fO ?_
 refine iG 2 [] ?_
 refine dQ (.inr rfl) (Ho:=Hp.only _ []) rfl (.agg 2 rfl rfl T.agg93) (bP _ _) ?_
 refine ⟨⟨n2 && decide (0<tn2),subA po1 pc1 0 1,tn2,pc1⟩,rfl,?_,rfl⟩
 have e:=htr2.num hpd1 hA hcap n2
 have e2:(if n2=true then -rJ pr1 else rJ pr1)=x+y:=by
  rw [hpv1,hx.val,hy.val]
  revert hs
  cases n1 <;> cases n2 <;> simp <;> omega
 rw [e2] at e;exact e
theorem TJ (G:Imm) (n1 n2:Bool) (a b:Option Addr) (ca cb:Nat) (la lb:List U32) (x y:Int) (ha:Arr G a la) (hb:Arr G b lb) (hx:IsInt n1 la x) (hy:IsInt n2 lb y) (h1:la.length≤1073741824) (h2:lb.length≤1073741824) (hcb:lb.length≤cb) :
 Does Tryz.prog 160 [.agg #[.bool n1,.slice a la.length ca],.agg #[.bool n2,.slice b lb.length cb]] G [] (fun v G' Ho=>∃ r:IV,v=.agg #[.bool r.neg,.slice r.a r.n r.c]∧Num G' r (x - y)∧Ho=[]):=by
 refine D0 Tryz.func160 Tryz.ntmps160 fun w=>?_
 refine aM 2 [] ?_
 refine cV 0 fun b1=>?_
 refine cV 1 fun b2=>?_
 refine aU 2 rfl T.zero93 fun b3=>?_
 refine bR 3 [] ?_
 refine dT [0,1,2] [(2,4)] T.mixed [[0,0],[1,1]] ?_
 refine fE 2 ?_
 refine bU 3 rfl (TH _ _ _ _ _ _ rH rH rH rH) fun v1 G1 Ho1 hle1 hp=>?_
 obtain ⟨nr1,rfl,hnr1,rfl,rfl⟩:=hp
 refine bO 3 ?_
 obtain ⟨rn,ra,rk,rc⟩:=nr1
 obtain ⟨l,hl,hlc,hA,hI⟩:=hnr1
 simp only at hl hlc hA hI
 subst hl
 have hll:l.length≤lb.length:=hI.len (by
  have:=uU hy.digs
  rw [hy.abs] at this
  omega)
 refine bU 20 rfl (c74 _ _ _ _ _ _ _ _ _ _ _ ha hA hx hI h1 rG) fun v2 G2 Ho2 hle2 hp=>?_
 obtain ⟨r2,rfl,hr2,rfl⟩:=hp
 refine bO 4 ?_
 refine aA 1 [2] ?_
 refine fO ?_
 refine iG 2 [] ?_
 refine dQ (.inr rfl) (Ho:=Hp.only _ []) rfl (.agg 2 rfl rfl T.agg93) (bP _ _) ?_
 refine ⟨r2,rfl,?_,rfl⟩
 rw [Int.sub_eq_add_neg];exact hr2
theorem Vs (G:Imm) (x y:IV) (zx zy:Int) (hx:Num G x zx) (hy:Num G y zy) (h1:x.n≤1073741824) (h2:y.n≤1073741824) :
 Does Tryz.prog 74 [.agg (Cells.enc x).toArray,.agg (Cells.enc y).toArray] G [] (fun v G' Ho=>∃ r:IV,v=.agg (Cells.enc r).toArray∧Num G' r (zx+zy)∧Ho=[]):=by
 obtain ⟨n1,a,k1,ca⟩:=x
 obtain ⟨n2,b,k2,cb⟩:=y
 obtain ⟨la,hl,hlc,hA,hI⟩:=hx
 obtain ⟨lb,hl',hlc',hA',hI'⟩:=hy
 simp only at hl hlc hA hI hl' hlc' hA' hI' h1 h2
 subst hl hl'
 exact c74 G n1 n2 a b ca cb la lb zx zy hA hA' hI hI' h1 h2
theorem Vt (G:Imm) (x y:IV) (zx zy:Int) (hx:Num G x zx) (hy:Num G y zy) (h1:x.n≤1073741824) (h2:y.n≤1073741824) :
 Does Tryz.prog 180 [.agg (Cells.enc x).toArray,.agg (Cells.enc y).toArray] G [] (fun v G' Ho=>v=.int .i64 (sB zx zy)∧G'=G∧Ho=[]):=by
 obtain ⟨n1,a,k1,ca⟩:=x
 obtain ⟨n2,b,k2,cb⟩:=y
 obtain ⟨la,hl,hlc,hA,hI⟩:=hx
 obtain ⟨lb,hl',hlc',hA',hI'⟩:=hy
 simp only at hl hlc hA hI hl' hlc' hA' hI' h1 h2
 subst hl hl'
 exact TG G n1 n2 a b ca cb la lb zx zy hA hA' hI hI' h1 h2
end
theorem Cl:∀ (l:List U32) (k:Nat) (d:U32),k<l.length→rJ (l.set k d)=rJ l+pw k*(d.v - dg l k)
 | [],k,d,h=>by simp at h
 | x :: l,0,d,_=>by
   rw [qD,tL,tL,Cc]
   show _=_+1*(d.v - x.v)
   omega
 | x :: l,k+1,d,h=>by
   have ih:=Cl l k d (by simpa using h)
   have e:dg (x :: l) (k+1)=dg l k:=by unfold dg;rw [aF,aF,gE]
   rw [qE,tL,tL,ih,vF,e,bI,←bM]
   omega
theorem xY {l:List U32} (h:Digs l) (k:Nat) {s:Int} (hs:0≤s∧s<65536):Digs (l.set k ⟨s⟩):=fun d hd=>by
 rcases iQ hd with h1 | h1
 · exact h d h1
 subst h1;exact hs
theorem Qm {r lb:List U32} {i j:Nat} {c s x A:Int} (hk:i+j<r.length) (hv:rJ r+pw (i+j)*c=A+pw i*(x*rJ (lb.take j))) (hs:s=c+dg r (i+j)+x*dg lb j) :
 rJ (r.set (i+j) ⟨s % 65536⟩)+pw (i+(j+1))*(s / 65536)=A+pw i*(x*rJ (lb.take (j+1))):=by
 rw [Cl r (i+j) ⟨s % 65536⟩ hk,tS,←jS,vF]
 have h1:=Vp (pw (i+j)) s
 have h2:pw (i+j)*s=pw (i+j)*c+pw (i+j)*dg r (i+j)+pw (i+j)*(x*dg lb j):=by rw [hs,bI,bI]
 have h3:pw i*(x*(rJ (lb.take j)+pw j*dg lb j))=pw i*(x*rJ (lb.take j))+pw (i+j)*(x*dg lb j):=by
  rw [bI,bI,Tc]
  congr 1
  rw [bM,←bM x,cI x (pw j),bM]
 have h4:pw (i+j)*(s % 65536 - dg r (i+j))=pw (i+j)*(s % 65536) - pw (i+j)*dg r (i+j):=iF _ _ _
 show rJ r+pw (i+j)*(s % 65536 - dg r (i+j))+65536*pw (i+j)*(s / 65536)=_
 rw [h3,h4]
 omega
theorem Vu {la lb:List U32} {i j:Nat} {v:Int} (hj:lb.length≤j) (h:v=rJ (la.take i)*rJ lb+pw i*(dg la i*rJ (lb.take j))):v=rJ (la.take (i+1))*rJ lb:=by
 rw [h,rQ hj,tS,iX,bM]
theorem MD {a b c d:Int} (ha:0≤a) (hb:0≤b) (h1:a<c) (h2:b<d):a*b<c*d:=by
 have e1:a*b≤a*d:=aW (bK h2) ha
 have e2:a*d<c*d:=kA h1 rG
 omega
theorem Zc {la lb r:List U32} {i j:Nat} {c:Int} (da:Digs la) (db:Digs lb) (hi:i<la.length) (hj:lb.length≤j) (hdr:Digs r) (hc:0<c) (hv:rJ r+pw (i+j)*c=rJ (la.take i)*rJ lb+pw i*(dg la i*rJ (lb.take j))):j≤lb.length:=by
 have h1:=Vu hj hv
 have h2:=uU (da.take (i+1))
 rw [bC,cS rG] at h2
 have h3:=MD (sQ (da.take (i+1))) (sQ db) h2 (uU db)
 rw [←Tc] at h3
 have h4:=sQ hdr
 have h5:=aW (show (1:Int)≤c by omega) (bK (uW (i+j)))
 have h6:pw (i+j)<pw (i+1+lb.length):=rG
 have:=Lz h6
 omega
theorem Qn {x y:Int} (hx:0≤x∧x<65536) (hy:0≤y∧y<65536):0≤x*y∧x*y≤4294836225:=by
 refine ⟨jF hx.1 hy.1,?_⟩
 have h1:x*y≤65535*y:=cX rG hy.1
 omega
section
attribute [local irreducible] rJ pw sB
theorem c52 (G:Imm) (n1 n2:Bool) (a b:Option Addr) (ca cb:Nat) (la lb:List U32) (x y:Int) (ha:Arr G a la) (hb:Arr G b lb) (hx:IsInt n1 la x) (hy:IsInt n2 lb y) (h1:la.length≤536870912) (h2:lb.length≤536870912) :
 Does Tryz.prog 52 [.agg #[.bool n1,.slice a la.length ca],.agg #[.bool n2,.slice b lb.length cb]] G [] (fun v G' Ho=>∃ r:IV,v=.agg #[.bool r.neg,.slice r.a r.n r.c]∧Num G' r (x*y)∧Ho=[]):=by
 have da:=hx.digs
 have db:=hy.digs
 refine D0 Tryz.func52 Tryz.ntmps52 fun w=>?_
 refine aM 2 [] ?_
 refine cV 0 fun b1=>?_
 refine cV 1 fun b2=>?_
 refine aU 2 rfl T.zero93 fun b3=>?_
 refine aL 12 [0,1] ?_
 refine gT (α:=U32) 3 rfl T.sl87 T.el166 rfl rfl rG rG fun b4=>?_
 refine bR 10 [] ?_
 obtain ⟨N,hN⟩:∃ N,N=la.length+lb.length+1:=⟨_,rfl⟩
 have hM:((la.length:Int)+(lb.length:Int)+1).toNat=N:=rG
 rw [hM]
 have hown:∀ r:List U32,r.length=N→OwnA (some ⟨b4,0,none⟩) N r []:=fun r hr=>.inr ⟨b4,rfl,by rw [hr];rfl,by omega,by simp only [maxLen];omega⟩
 refine iP 5 rfl (show _=Value.slice (some ⟨b4,0,none⟩) (List.replicate N (default:U32)).length N by rw [aE]) ?_
 refine fS (ι:=Nat×List U32) (fun (i,r)=>([(6,.int .i64 (i:Int)),(5,.slice (some ⟨b4,0,none⟩) r.length N),(4,.pointer (some (Addr.mk b3 0 none))),(3,.pointer (some ⟨b2,0,none⟩)),(2,.pointer (some ⟨b1,0,none⟩))],[(3,some b4,rV 166 r []),(2,some b3,.cells #[.bool Bool.false,.slice none 0 0] 93),(1,some b2,.cells #[.bool n2,.slice b (List.length lb) cb] 93),(0,some b1,.cells #[.bool n1,.slice a (List.length la) ca] 93)])) (fun (i,r)=>i≤la.length∧r.length=N∧Digs r∧rJ r=rJ (la.take i)*rJ lb) (fun (i,r)=>la.length - i) ((0,List.replicate N (default:U32))) (⟨aT _,aE,qG N,by rw [bQ,sV,gA];exact xA N⟩) fun ⟨i,r⟩=>fun hk=>?_
 obtain ⟨hi,hrN,hdr,hv⟩:=hk
 rcases aJ i la.length with hia | hia
 · have hxi:0≤(la[(i:Int).toNat]?.getD default).v∧(la[(i:Int).toNat]?.getD default).v<65536:=xQ da hia
   refine cJ 26 [0,1] ?_
   refine fS (ι:=Nat×Int×List U32) (fun (j,c,s)=>([(8,.int .i64 (j:Int)),(7,.int .u64 c),(5,.slice (some ⟨b4,0,none⟩) s.length N),(2,.pointer (some ⟨b1,0,none⟩)),(6,.int .i64 (↑i:Int)),(4,.pointer (some (Addr.mk b3 0 none))),(3,.pointer (some ⟨b2,0,none⟩))],[(3,some b4,rV 166 s []),(2,some b3,.cells #[.bool Bool.false,.slice none 0 0] 93),(1,some b2,.cells #[.bool n2,.slice b (List.length lb) cb] 93),(0,some b1,.cells #[.bool n1,.slice a (List.length la) ca] 93)])) (fun (j,c,s)=>0≤c∧c≤65535∧s.length=N∧Digs s∧rJ s+pw (i+j)*c=rJ (la.take i)*rJ lb+pw i*(dg la i*rJ (lb.take j))∧j≤lb.length+1) (fun (j,c,s)=>lb.length+1 - j) ((0,0,r)) (⟨by decide,by decide,hrN,hdr,by rw [cC,bQ,sV,cC,cC,dB,dB];exact hv,aT _⟩) fun ⟨j,c,s⟩=>fun hk=>?_
   obtain ⟨hc0,hc1,hsN,hds,hvs,hjl⟩:=hk
   have hos:=hown s hsN
   have hbnd:lb.length≤j→0<c→j≤lb.length:=fun h1 h2=>Zc da db hia h1 hds h2 hvs
   have ekk:((i:Int)+(j:Int)).toNat=i+j:=rG
   rcases aJ j lb.length with hjb | hjb
   · have hyj:0≤(lb[(j:Int).toNat]?.getD default).v∧(lb[(j:Int).toNat]?.getD default).v<65536:=xQ db hjb
     have hxy:=Qn hxi hyj
     have hsk:0≤(s[((i:Int)+(j:Int)).toNat]?.getD default).v∧(s[((i:Int)+(j:Int)).toNat]?.getD default).v<65536:=hds.at rG
     refine aM 9 [1] ?_
     refine Fe 30 ?_
     refine aL 17 [1] ?_
     refine fP (α:=U32) T.sl87 ?_
     refine mZ 3 0 T.one166 ?_
     refine aN (bZ rfl T.u165 rfl rG) ?_
     refine aN (fV rfl rfl rG) ?_
     refine bR 14 [1,1] ?_
     refine dT [0,1,2,3] [] T.mixed [[0],[1],[2,0],[3]] ?_
     refine iM (α:=U32) 4 T.sl87 ?_
     refine nW 5 [0] 0 T.one166 ?_
     refine gR 6 [] rfl (bZ rfl T.u165 rfl rG) ?_
     refine eD [[7],[8,1],[9]] ?_
     refine iM (α:=U32) 10 T.sl87 ?_
     refine nW 11 [0] 0 T.one166 ?_
     refine gR 12 [] rfl (bZ rfl T.u165 rfl rG) ?_
     refine gR 13 [] rfl (mS rfl rfl tU) ?_
     refine gR 14 [] rfl (fV rfl rfl rG) ?_
     refine eD [[15]] ?_
     refine dY ?_
     refine Ar.gl 8 [] ?_
     refine aN (jA rfl rfl rG) ?_
     refine aN (gB rfl T.u166 rfl rG) ?_
     refine fP (α:=U32) T.sl87 ?_
     refine eT (z:=_) 3 T.size166 rfl rfl rfl rH rG rfl fun ho1=>?_
     refine aL 4 [] ?_
     refine aN (nN rfl rfl rG) ?_
     refine aY 9 [] ?_
     rw [ekk] at ⊢ hsk
     refine dC 5 rfl (show _=Value.slice (some ⟨b4,0,none⟩) (s.set (i+j) (⟨(c+(s[i+j]?.getD default).v+(la[(i:Int).toNat]?.getD default).v*(lb[(j:Int).toNat]?.getD default).v) % 65536⟩:U32)).length N by rw [aG]) ?_
     refine cP ((j+1,(c+(s[i+j]?.getD default).v+(la[(i:Int).toNat]?.getD default).v*(lb[(j:Int).toNat]?.getD default).v) / 65536,s.set (i+j) (⟨(c+(s[i+j]?.getD default).v+(la[(i:Int).toNat]?.getD default).v*(lb[(j:Int).toNat]?.getD default).v) % 65536⟩:U32))) ?_ ?_
     · exact ⟨by omega,by omega,by rw [aG];exact hsN,xY hds _ rG,Qm rG hvs (by simp only [dg,aF]),by omega⟩
     show lb.length+1 - (j+1)<lb.length+1 - j
     omega
   by_cases hcy:0<c
   · have hjle:=hbnd hjb hcy
     have hsk:0≤(s[((i:Int)+(j:Int)).toNat]?.getD default).v∧(s[((i:Int)+(j:Int)).toNat]?.getD default).v<65536:=hds.at rG
     refine aM 9 [1] ?_
     refine jH 30 ?_
     refine aL 19 [1] ?_
     refine fP (α:=U32) T.sl87 ?_
     refine mZ 3 0 T.one166 ?_
     refine aN (bZ rfl T.u165 rfl rG) ?_
     refine aN (fV rfl rfl rG) ?_
     refine aL 23 [1,0] ?_
     refine aN (jA rfl rfl rG) ?_
     refine aN (gB rfl T.u166 rfl rG) ?_
     refine fP (α:=U32) T.sl87 ?_
     refine eT (z:=_) 3 T.size166 rfl rfl rfl rH rG rfl fun ho1=>?_
     refine aL 4 [] ?_
     refine aN (nN rfl rfl rG) ?_
     refine aY 9 [] ?_
     rw [ekk] at ⊢ hsk
     refine dC 5 rfl (show _=Value.slice (some ⟨b4,0,none⟩) (s.set (i+j) (⟨(c+(s[i+j]?.getD default).v) % 65536⟩:U32)).length N by rw [aG]) ?_
     refine cP ((j+1,(c+(s[i+j]?.getD default).v) / 65536,s.set (i+j) (⟨(c+(s[i+j]?.getD default).v) % 65536⟩:U32))) ?_ ?_
     · exact ⟨by omega,by omega,by rw [aG];exact hsN,xY hds _ rG,Qm rG hvs (by rw [Ea hjb,cC,dB];simp only [dg,aF]),by omega⟩
     show lb.length+1 - (j+1)<lb.length+1 - j
     omega
   have hc:c=0:=rG
   subst hc
   rw [cC,dB] at hvs
   refine aM 9 [1] ?_
   refine jH 30 ?_
   refine aY 19 [0] ?_
   refine cP ((i+1,s)) ?_ ?_
   · exact ⟨by omega,hsN,hds,Vu hjb hvs⟩
   show la.length - (i+1)<la.length - i
   omega
 have hor:=hown r hrN
 rw [rQ hia] at hv
 refine aM 22 [0,0,0,1] ?_
 refine aN (Bv T.u4 rfl rfl) ?_
 refine aA 1 [] ?_
 have hcap:=hor.le
 refine cN 3 rfl hor fun G9 hle9 hA=>?_
 refine bU 4 rfl (vI _ _ _ _ _ rH rG rH) fun v1 G1 Ho1 hle1 hp=>?_
 obtain ⟨tn1,rfl,htr1,rfl,rfl⟩:=hp
 refine aY 4 [2] ?_
 refine dQ (.inr rfl) (Ho:=Hp.only _ []) rfl (.agg 2 rfl rfl T.agg93) (bP _ _) ?_
 refine ⟨⟨decide (n1≠n2) && decide (0<tn1),subA (some ⟨b4,0,none⟩) N 0 1,tn1,N⟩,rfl,?_,rfl⟩
 have e:=htr1.num hdr hA hcap (decide (n1≠n2))
 have e2:(if decide (n1≠n2)=true then -rJ r else rJ r)=x*y:=by
  rw [hv,hx.val,hy.val]
  cases n1 <;> cases n2 <;> simp [oG,Int.mul_neg]
 rw [e2] at e;exact e
theorem Vv (G:Imm) (x y:IV) (zx zy:Int) (hx:Num G x zx) (hy:Num G y zy) (h1:x.n≤536870912) (h2:y.n≤536870912) :
 Does Tryz.prog 52 [.agg (Cells.enc x).toArray,.agg (Cells.enc y).toArray] G [] (fun v G' Ho=>∃ r:IV,v=.agg (Cells.enc r).toArray∧Num G' r (zx*zy)∧Ho=[]):=by
 obtain ⟨n1,a,k1,ca⟩:=x
 obtain ⟨n2,b,k2,cb⟩:=y
 obtain ⟨la,hl,hlc,hA,hI⟩:=hx
 obtain ⟨lb,hl',hlc',hA',hI'⟩:=hy
 simp only at hl hlc hA hI hl' hlc' hA' hI' h1 h2
 subst hl hl'
 exact c52 G n1 n2 a b ca cb la lb zx zy hA hA' hI hI' h1 h2
end
theorem TK (G:Imm) (op:Int):Does Tryz.prog 214 [.int .i64 op] G [] (fun v G' Ho=>v=.bool (decide (op=3∨op=4))∧G'=G∧Ho=[]):=by
 refine D0 Tryz.func214 Tryz.ntmps214 fun w=>?_
 refine aM 10 [] ?_
 apply cA 3 5 8 rfl
 intro hg1
 refine aA 5 [] ?_
 exact cQ 3 0
 intro hg1
 refine aA 3 [] ?_
 exact cQ 3 0
 refine aY 4 [] ?_
 refine bT ?_
 exact ⟨by simp,rfl,rfl⟩
def yQ (op c:Int):Bool:=
 if op=5∨op=6 then decide (c≠0∧-512≤c∧c≤512) else if op=7∨op=8 then decide (1≤c∧c≤64) else decide (c=0)
theorem TL (G:Imm) (i:Sl.Instr):Does Tryz.prog 215 [.agg (Cells.enc i).toArray] G [] (fun v G' Ho=>v=.bool (decide (yQ i.op i.c=true))∧G'=G∧Ho=[]):=by
 refine D0 Tryz.func215 Tryz.ntmps215 fun w=>?_
 refine aM 2 [] ?_
 refine cV 0 fun b1=>?_
 refine bR 18 [0] ?_
 refine dL (fun hc1=>?_) fun hc1=>?_
 refine aM 9 [1,0] ?_
 apply dS 4 11 15 rfl
 intro hg1
 refine aA 7 [0] ?_
 exact cQ 4 0
 intro hg1
 refine aA 4 [] ?_
 exact cQ 4 0
 refine aA 1 [] ?_
 apply dS 4 16 20 rfl
 intro hg1
 refine aA 7 [0] ?_
 exact cQ 4 0
 intro hg1
 refine aA 4 [] ?_
 exact cQ 4 0
 refine aY 6 [] ?_
 refine bT ?_
 rotate_left
 refine cJ 5 [] ?_
 refine dL (fun hc2=>?_) fun hc2=>?_
 refine aM 6 [0] ?_
 apply dS 4 11 15 rfl
 intro hg1
 refine aA 7 [0] ?_
 exact cQ 4 0
 intro hg1
 refine aA 4 [] ?_
 exact cQ 4 0
 refine aA 1 [] ?_
 apply dS 4 16 20 rfl
 intro hg1
 refine aA 7 [0] ?_
 exact cQ 4 0
 intro hg1
 refine aA 4 [] ?_
 exact cQ 4 0
 refine aY 6 [] ?_
 refine bT ?_
 rotate_left
 refine cJ 7 [] ?_
 refine dL (fun hc3=>?_) fun hc3=>?_
 refine aM 9 [1,0] ?_
 apply dS 4 27 31 rfl
 intro hg1
 refine aA 7 [0] ?_
 exact cQ 4 0
 intro hg1
 refine aA 4 [] ?_
 exact cQ 4 0
 refine aY 6 [] ?_
 refine bT ?_
 rotate_left
 refine cJ 5 [] ?_
 refine dL (fun hc4=>?_) fun hc4=>?_
 refine aM 6 [0] ?_
 apply dS 4 27 31 rfl
 intro hg1
 refine aA 7 [0] ?_
 exact cQ 4 0
 intro hg1
 refine aA 4 [] ?_
 exact cQ 4 0
 refine aY 6 [] ?_
 refine bT ?_
 rotate_left
 refine bG 12 [0] ?_
 refine bT ?_
 rotate_left
 all_goals refine ⟨?_,rfl,rfl⟩
 all_goals simp [yQ, *]
 all_goals first | (split <;> first | rfl | omega) | omega | (simp only [Bool.and_assoc];rfl) | (simp only [Bool.and_assoc]) | skip
def vM (i:Sl.Instr):List Int:=if i.op=3∨i.op=4 then [i.a,i.b] else if 1≤i.op∧i.op≤8 then [i.a] else []
theorem TM (G:Imm) (i:Sl.Instr):Does Tryz.prog 216 [.agg (Cells.enc i).toArray] G [] (fun v G' Ho=>∃ a c junk,v=.slice a (vM i).length c∧OwnA a c (vM i) junk∧Ho=[(1,a.map (·.block),rV 3 (vM i) junk)]∧G'=G):=by
 refine D0 Tryz.func216 Tryz.ntmps216 fun w=>?_
 refine aM 2 [] ?_
 refine cV 0 fun b1=>?_
 refine bR 18 [0] ?_
 refine dL (fun hc1=>?_) fun hc1=>?_
 refine aM 9 [1,0,0] ?_
 refine fC (α:=Int) 1 [(Go.Sl.Instr.a i),(Go.Sl.Instr.b i)] rfl T.sl24 T.el3 rfl rfl rfl rfl rfl fun b2=>?_
 refine aY 6 [] ?_
 rotate_left
 refine cJ 5 [] ?_
 refine dL (fun hc2=>?_) fun hc2=>?_
 refine aM 6 [0,0] ?_
 refine fC (α:=Int) 1 [(Go.Sl.Instr.a i),(Go.Sl.Instr.b i)] rfl T.sl24 T.el3 rfl rfl rfl rfl rfl fun b2=>?_
 refine aY 6 [] ?_
 rotate_left
 refine cJ 7 [] ?_
 refine dL (fun hc3=>?_) fun hc3=>?_
 refine aM 7 [1,0] ?_
 refine fC (α:=Int) 1 [(Go.Sl.Instr.a i)] rfl T.sl24 T.el3 rfl rfl rfl rfl rfl fun b2=>?_
 refine aY 6 [] ?_
 rotate_left
 refine cJ 6 [] ?_
 refine dL (fun hc4=>?_) fun hc4=>?_
 refine aM 7 [1,0] ?_
 refine fC (α:=Int) 1 [(Go.Sl.Instr.a i)] rfl T.sl24 T.el3 rfl rfl rfl rfl rfl fun b2=>?_
 refine aY 6 [] ?_
 rotate_left
 refine cJ 6 [] ?_
 refine dL (fun hc5=>?_) fun hc5=>?_
 refine aM 7 [1,0] ?_
 refine fC (α:=Int) 1 [(Go.Sl.Instr.a i)] rfl T.sl24 T.el3 rfl rfl rfl rfl rfl fun b2=>?_
 refine aY 6 [] ?_
 rotate_left
 refine cJ 6 [] ?_
 refine dL (fun hc6=>?_) fun hc6=>?_
 refine aM 7 [1,0] ?_
 refine fC (α:=Int) 1 [(Go.Sl.Instr.a i)] rfl T.sl24 T.el3 rfl rfl rfl rfl rfl fun b2=>?_
 refine aY 6 [] ?_
 rotate_left
 refine cJ 6 [] ?_
 refine dL (fun hc7=>?_) fun hc7=>?_
 refine aM 7 [1,0] ?_
 refine fC (α:=Int) 1 [(Go.Sl.Instr.a i)] rfl T.sl24 T.el3 rfl rfl rfl rfl rfl fun b2=>?_
 refine aY 6 [] ?_
 rotate_left
 refine cJ 5 [] ?_
 refine dL (fun hc8=>?_) fun hc8=>?_
 refine aM 4 [0] ?_
 refine fC (α:=Int) 1 [(Go.Sl.Instr.a i)] rfl T.sl24 T.el3 rfl rfl rfl rfl rfl fun b2=>?_
 refine aY 6 [] ?_
 rotate_left
 refine bG 9 [] ?_
 rotate_left
 rotate_right
 · have h:vM i=[]:=by unfold vM;rw [aK (by omega),aK (by omega)]
   refine Dt 1 (rV 3 ([]:List Int) []) ?_
   refine pJ [1] ?_
   rw [h];exact ⟨_,_,_,rfl,fF,rfl,rfl⟩
 all_goals first | refine dQ (.inr rfl) (Ho:=Hp.only _ [1]) rfl (.tmp rfl) (bP _ _) ?_
 all_goals first
  | (have h:vM i=[i.a,i.b]:=by unfold vM;rw [aR (by omega)]
     rw [h];exact ⟨_,_,_,rfl,iS Hj,rfl,rfl⟩)
  | (have h:vM i=[i.a]:=by unfold vM;rw [aK (by omega),aR (by omega)]
     rw [h];exact ⟨_,_,_,rfl,iS Hj,rfl,rfl⟩)
  | skip
def vO (i:Sl.Instr) (regs:Int):Bool:=
 decide (1≤i.op∧i.op≤8∧0≤i.to∧i.to<regs∧(i.op=3∨i.op=4∨i.b=0)) && yQ i.op i.c && (vM i).all fun r=>decide (0≤r∧r<regs)
theorem zM {α:Type} [Inhabited α] (p:α→Bool) {l:List α} {k:Nat} (h:k<l.length):(l.take (k+1)).all p=((l.take k).all p && p (l[((k:Nat):Int).toNat]?.getD default)):=by
 have:l.take (k+1)=l.take k++[l[(k:Int).toNat]?.getD default]:=by
  rw [eG,aF,aC h];rfl
 rw [this,List.all_append];simp
theorem TN (G:Imm) (i:Sl.Instr) (regs:Int):Does Tryz.prog 173 [.agg (Cells.enc i).toArray,.int .i64 regs] G [] (fun v G' Ho=>v=.bool (decide (vO i regs=true))∧G'=G∧Ho=[]):=by
 refine D0 Tryz.func173 Tryz.ntmps173 fun w=>?_
 refine aM 2 [] ?_
 refine cV 0 fun b1=>?_
 refine aL 10 [0] ?_
 apply cA 4 10 14 rfl
 intro hg1
 refine aA 7 [0] ?_
 exact cQ 4 0
 intro hg1
 refine aA 4 [] ?_
 exact cQ 4 0
 refine aA 1 [] ?_
 apply cA 4 15 19 rfl
 intro hg1
 refine aA 7 [0] ?_
 exact cQ 4 0
 intro hg1
 refine aA 4 [] ?_
 exact cQ 4 0
 refine aA 1 [] ?_
 apply cA 5 20 25 rfl
 intro hg1
 refine aA 9 [0] ?_
 exact cQ 5 0
 intro hg1
 refine aA 5 [] ?_
 exact cQ 5 0
 refine aA 1 [] ?_
 apply cA 10 26 36 rfl
 intro hg1
 refine aA 5 [0] ?_
 refine cG rfl (TK _ _) ?_
 refine aA 1 [] ?_
 refine aN (eF rfl) ?_
 refine aA 2 [] ?_
 apply dS 4 31 35 rfl
 intro hg1
 refine aA 8 [0] ?_
 exact cQ 4 0
 intro hg1
 refine aA 5 [] ?_
 exact cQ 4 0
 refine aA 1 [] ?_
 exact cQ 7 0
 intro hg1
 refine aA 5 [] ?_
 refine Ia rfl rfl rfl ?_
 refine Ia rfl rfl rfl ?_
 refine Ia rfl rfl rfl ?_
 refine aA 2 [] ?_
 exact cQ 10 0
 refine aA 1 [] ?_
 apply cA 4 37 41 rfl
 intro hg1
 refine aA 3 [0] ?_
 refine cG rfl (TL _ _) ?_
 refine aA 1 [] ?_
 refine aN (eF rfl) ?_
 refine aA 1 [] ?_
 exact cQ 4 0
 intro hg1
 refine aA 4 [] ?_
 exact cQ 4 0
 refine bR 2 [] ?_
 refine dL (fun hc1=>?_) fun hc1=>?_
 refine bG 7 [] ?_
 refine bT ?_
 rotate_left
 refine aM 6 [0] ?_
 refine bU 1 rfl (TM _ _) fun v1 G1 Ho1 hle1 hp=>?_
 obtain ⟨ad1,cd1,junk1,rfl,hoa1,rfl,rfl⟩:=hp
 refine bR 5 [] ?_
 rotate_left
 · refine ⟨?_,rfl,rfl⟩
   have:vO i regs=false:=by
    unfold vO
    rcases hc1 with ((((h | h) | h) | h) | h) | h
    all_goals first | (rw [bF rG];rfl) | simp [h]
   simp [this]
 have hasks:(vM i).length≤2:=by unfold vM;split <;> (try split) <;> simp
 refine fS (ι:=Nat) (fun k=>([(45,.int .i64 (k:Int)),(44,.int .i64 (↑(List.length (vM i)):Int)),(43,.slice ad1 (List.length (vM i)) cd1),(1,.int .i64 regs)],[(2,Option.map (fun x=>Go.Addr.block x) ad1,rV (α:=Int) 3 (vM i) (junk1)),(0,some b1,.cells (List.toArray (Cells.enc i)) 211)])) (fun k=>k≤(vM i).length∧((vM i).take k).all (fun r=>decide (0≤r∧r<regs))=true) (fun k=>(vM i).length - k) (0) (⟨aT _,rfl⟩) fun k=>fun hk=>?_
 obtain ⟨hk1,hk2⟩:=hk
 refine cJ 6 [] ?_
 refine dL (fun hc2=>?_) fun hc2=>?_
 refine aM 6 [] ?_
 refine fP (α:=Int) T.sl24 ?_
 refine mZ 2 0 T.one3 ?_
 refine aL 8 [] ?_
 apply cA 4 51 55 rfl
 intro hg1
 refine aA 7 [] ?_
 exact cQ 4 0
 intro hg1
 refine aA 4 [] ?_
 exact cQ 4 0
 refine bR 2 [] ?_
 refine dL (fun hc3=>?_) fun hc3=>?_
 refine bG 11 [] ?_
 refine bT ?_
 rotate_left
 refine bG 7 [] ?_
 rotate_left
 refine bG 11 [] ?_
 refine bT ?_
 rotate_left
 · refine ⟨?_,rfl,rfl⟩
   have hl:k<(vM i).length:=rG
   have hx:(vM i)[(k:Int).toNat]?.getD default∈vM i:=by rw [aF,aC hl];simp
   have hf:((vM i).all fun r=>decide (0≤r∧r<regs))=false:=by
    rw [qS]
    exact ⟨_,hx,by simp only [aQ];omega⟩
   have:vO i regs=false:=by unfold vO;rw [hf];simp
   simp [this]
 · refine cP (k+1) ?_ ?_
   · refine ⟨by omega,?_⟩
     rw [zM _ rG,hk2]
     simp only [jT,aQ]
     omega
   omega
 refine ⟨?_,rfl,rfl⟩
 have hk:k=(vM i).length:=rG
 subst hk
 rw [gO] at hk2
 have:vO i regs=true:=by
  unfold vO
  rw [hk2]
  simp only [not_or] at hc1
  simp only [kY,aB,aQ]
  refine ⟨by omega,?_⟩
  have:=hc1.2
  simpa using this
 simp [this]
structure PV where
 ins:Int
 regs:Int
 code:List Sl.Instr
 outs:List Int
def uQ (p:PV):Bool:=decide (1≤p.ins∧p.ins≤p.regs∧p.regs≤128∧p.code.length≤16384∧1≤p.outs.length∧p.outs.length≤128) && p.outs.all fun r=>decide (0≤r∧r<p.regs)
def Fh (p:PV):Option Nat:=p.code.findIdx? fun i=>!vO i p.regs
def tO (p:PV):Int×Bool:=if uQ p=false then (-1,true) else match Fh p with | some k=>(k,true) | none=>(0,false)
theorem Qo {α:Type} [Inhabited α] {p:α→Bool} {l:List α} {k:Nat} (h:k<l.length) (h1:(l.take k).all p=true) (h2:¬p (l[((k:Nat):Int).toNat]?.getD default)=true):l.findIdx? (fun i=>!p i)=some k:=by
 rw [qJ]
 rw [aF,aC h,gN] at h2
 refine ⟨h,by simpa using h2,fun j hj=>?_⟩
 have hm:l[j]'(by omega)∈l.take k:=by rw [List.mem_take_iff_getElem];exact ⟨j,by omega,rfl⟩
 have:=eZ.1 h1 _ hm
 simpa using this
theorem Ma {α:Type} {p:α→Bool} {l:List α} (h1:l.all p=true):l.findIdx? (fun i=>!p i)=none:=by
 rw [nX]
 intro x hx
 simpa using eZ.1 h1 x hx
theorem ON (G:Imm) (p:PV) (ac ao:Option Addr) (cc co:Nat) (hc:Arr G ac p.code) (ho:Arr G ao p.outs) (h1:p.code.length≤1099511627776) (h2:p.outs.length≤1099511627776) :
 Does Tryz.prog 124 [.agg #[.int .i64 p.ins,.int .i64 p.regs,.slice ac p.code.length cc,.slice ao p.outs.length co]] G [] (fun v G' Ho=>v=.tuple #[.int .i64 (tO p).1,.int .i64 (if (tO p).2 then 80 else 0)]∧G'=G∧Ho=[]):=by
 refine D0 Tryz.func124 Tryz.ntmps124 fun w=>?_
 refine aM 2 [] ?_
 refine cV 0 fun b1=>?_
 refine aL 11 [0] ?_
 apply cA 6 11 17 rfl
 intro hg1
 refine aA 11 [0,0] ?_
 exact cQ 6 0
 intro hg1
 refine aA 6 [] ?_
 exact cQ 6 0
 refine aA 1 [] ?_
 apply cA 4 18 22 rfl
 intro hg1
 refine aA 7 [0] ?_
 exact cQ 4 0
 intro hg1
 refine aA 4 [] ?_
 exact cQ 4 0
 refine aA 1 [] ?_
 apply cA 5 23 28 rfl
 intro hg1
 refine aA 9 [0] ?_
 exact cQ 5 0
 intro hg1
 refine aA 5 [] ?_
 exact cQ 5 0
 refine aA 1 [] ?_
 apply cA 5 29 34 rfl
 intro hg1
 refine aA 9 [0] ?_
 exact cQ 5 0
 intro hg1
 refine aA 5 [] ?_
 exact cQ 5 0
 refine aA 1 [] ?_
 apply cA 5 35 40 rfl
 intro hg1
 refine aA 9 [0] ?_
 exact cQ 5 0
 intro hg1
 refine aA 5 [] ?_
 exact cQ 5 0
 refine bR 2 [] ?_
 refine dL (fun hc1=>?_) fun hc1=>?_
 refine bG 8 [] ?_
 refine eJ ?_
 rotate_left
 refine cJ 12 [0] ?_
 rotate_left
 · refine ⟨?_,rfl,rfl⟩
   have:uQ p=false:=by unfold uQ;rw [bF rG];rfl
   simp [tO,this]
 refine fS (ι:=Nat) (fun k=>([(44,.int .i64 (k:Int)),(43,.int .i64 (↑p.outs.length:Int)),(42,.slice ao p.outs.length co),(1,.pointer (some ⟨b1,0,none⟩))],[(0,some b1,.cells #[.int .i64 p.ins,.int .i64 p.regs,.slice ac p.code.length cc,.slice ao p.outs.length co] 26)])) (fun k=>k≤p.outs.length∧(p.outs.take k).all (fun r=>decide (0≤r∧r<p.regs))=true) (fun k=>p.outs.length - k) (0) (⟨aT _,rfl⟩) fun k=>fun hk=>?_
 obtain ⟨hk1,hk2⟩:=hk
 refine cJ 6 [] ?_
 refine dL (fun hc2=>?_) fun hc2=>?_
 refine aM 6 [] ?_
 refine dI (α:=Int) T.sl24 ?_
 refine fJ 0 T.one3 ?_
 refine aL 8 [] ?_
 apply cA 5 50 55 rfl
 intro hg1
 refine aA 9 [0] ?_
 exact cQ 5 0
 intro hg1
 refine aA 5 [] ?_
 exact cQ 5 0
 refine bR 2 [] ?_
 refine dL (fun hc3=>?_) fun hc3=>?_
 refine bG 12 [] ?_
 refine eJ ?_
 rotate_left
 refine bG 7 [] ?_
 rotate_left
 refine cJ 15 [0] ?_
 rotate_left
 · refine ⟨?_,rfl,rfl⟩
   have hl:k<p.outs.length:=rG
   have hx:p.outs[(k:Int).toNat]?.getD default∈p.outs:=by rw [aF,aC hl];simp
   have hf:(p.outs.all fun r=>decide (0≤r∧r<p.regs))=false:=by
    rw [qS]
    exact ⟨_,hx,by simp only [aQ];omega⟩
   have:uQ p=false:=by unfold uQ;rw [hf,Bool.and_false]
   simp [tO,this]
 · refine cP (k+1) ?_ ?_
   · refine ⟨by omega,?_⟩
     rw [zM _ rG,hk2]
     simp only [jT,aQ]
     omega
   omega
 have hk:k=p.outs.length:=rG
 subst hk
 rw [gO] at hk2
 have hh:uQ p=true:=by
  unfold uQ
  rw [hk2,kY,aQ]
  omega
 clear hk1 hk2 hc2
 refine fS (ι:=Nat) (fun k=>([(60,.int .i64 (k:Int)),(59,.int .i64 (↑p.code.length:Int)),(58,.slice ac p.code.length cc),(1,.pointer (some ⟨b1,0,none⟩))],[(0,some b1,.cells #[.int .i64 p.ins,.int .i64 p.regs,.slice ac p.code.length cc,.slice ao p.outs.length co] 26)])) (fun k=>k≤p.code.length∧(p.code.take k).all (fun i=>vO i p.regs)=true) (fun k=>p.code.length - k) (0) (⟨aT _,rfl⟩) fun k=>fun hk=>?_
 obtain ⟨hk1,hk2⟩:=hk
 refine cJ 6 [] ?_
 refine dL (fun hc2=>?_) fun hc2=>?_
 refine aM 7 [] ?_
 refine dI (α:=Instr) T.sl23 ?_
 refine lP T.agg211 ?_
 refine aU 1 rfl T.zero211 fun b2=>?_
 refine aL 9 [1,1,0] ?_
 refine cG rfl (TN _ _ _) ?_
 refine aN (eF rfl) ?_
 refine bR 2 [] ?_
 refine dL (fun hc3=>?_) fun hc3=>?_
 refine bG 13 [] ?_
 refine eJ ?_
 rotate_left
 refine bG 7 [] ?_
 rotate_left
 refine bG 12 [] ?_
 refine eJ ?_
 rotate_left
 · refine ⟨?_,rfl,rfl⟩
   have hl:k<p.code.length:=rG
   have:Fh p=some k:=Qo hl hk2 hc3
   simp [tO,hh,this]
 · refine cP (k+1) ?_ ?_
   · refine ⟨by omega,?_⟩
     rw [zM _ rG,hk2]
     simpa using hc3
   omega
 refine ⟨?_,rfl,rfl⟩
 have hk:k=p.code.length:=rG
 subst hk
 rw [gO] at hk2
 have:Fh p=none:=Ma hk2
 simp [tO,hh,this]
def rP (p:PV):Bool:=!(tO p).2
theorem Zd (i:Sl.Instr) (regs:Int):vO i regs=true↔(1≤i.op∧i.op≤8∧0≤i.to∧i.to<regs∧0≤i.a∧i.a<regs)∧
 (if i.op=3∨i.op=4 then 0≤i.b∧i.b<regs∧i.c=0 else i.b=0∧(if i.op=5∨i.op=6 then i.c≠0∧-512≤i.c∧i.c≤512 else if i.op=7∨i.op=8 then 1≤i.c∧i.c≤64 else i.c=0)):=by
 unfold vO yQ vM
 by_cases h3:i.op=3∨i.op=4
 · have h5:¬(i.op=5∨i.op=6):=rG
   have h7:¬(i.op=7∨i.op=8):=rG
   simp only [aR h3,aK h5,aK h7,iZ,List.all_nil,kY,aB,aQ]
   omega
 by_cases h1:1≤i.op∧i.op≤8
 · simp only [aK h3,aR h1,iZ,List.all_nil,kY,aB,aQ]
   by_cases h5:i.op=5∨i.op=6
   · simp only [aR h5,aQ];omega
   by_cases h7:i.op=7∨i.op=8
   · simp only [aK h5,aR h7,aQ];omega
   simp only [aK h5,aK h7,aQ];omega
 simp only [aK h3,aK h1,List.all_nil,kY,aB,aQ]
 constructor <;> (intro h;omega)
theorem TO (G:Imm) (i:Sl.Instr) (regs:Int):Does Tryz.prog 177 [.agg (Cells.enc i).toArray,.int .i64 regs] G [] (fun v G' Ho=>v=.bool (decide (vO i regs=true))∧G'=G∧Ho=[]):=by
 refine D0 Tryz.func177 Tryz.ntmps177 fun w=>?_
 refine aM 2 [] ?_
 refine cV 0 fun b1=>?_
 refine aL 10 [0] ?_
 apply cA 4 8 12 rfl
 intro hg1
 refine aA 7 [0] ?_
 exact cQ 4 0
 intro hg1
 refine aA 4 [] ?_
 exact cQ 4 0
 refine aA 1 [] ?_
 apply cA 4 13 17 rfl
 intro hg1
 refine aA 7 [0] ?_
 exact cQ 4 0
 intro hg1
 refine aA 4 [] ?_
 exact cQ 4 0
 refine aA 1 [] ?_
 apply cA 5 18 23 rfl
 intro hg1
 refine aA 9 [0] ?_
 exact cQ 5 0
 intro hg1
 refine aA 5 [] ?_
 exact cQ 5 0
 refine aA 1 [] ?_
 apply cA 4 24 28 rfl
 intro hg1
 refine aA 7 [0] ?_
 exact cQ 4 0
 intro hg1
 refine aA 4 [] ?_
 exact cQ 4 0
 refine aA 1 [] ?_
 apply cA 5 29 34 rfl
 intro hg1
 refine aA 9 [0] ?_
 exact cQ 5 0
 intro hg1
 refine aA 5 [] ?_
 exact cQ 5 0
 refine bR 2 [] ?_
 refine dL (fun hc1=>?_) fun hc1=>?_
 refine bG 7 [] ?_
 refine bT ?_
 rotate_left
 refine aM 9 [0] ?_
 apply cA 4 38 42 rfl
 intro hg1
 refine aA 7 [0] ?_
 exact cQ 4 0
 intro hg1
 refine aA 4 [] ?_
 exact cQ 4 0
 refine bR 2 [] ?_
 refine dL (fun hc2=>?_) fun hc2=>?_
 refine aM 6 [0] ?_
 apply dS 5 46 51 rfl
 intro hg1
 refine aA 9 [0] ?_
 exact cQ 5 0
 intro hg1
 refine aA 5 [] ?_
 exact cQ 5 0
 refine aA 1 [] ?_
 apply dS 4 52 56 rfl
 intro hg1
 refine aA 7 [0] ?_
 exact cQ 4 0
 intro hg1
 refine aA 4 [] ?_
 exact cQ 4 0
 refine aY 5 [] ?_
 refine bT ?_
 rotate_left
 refine cJ 10 [0] ?_
 refine dL (fun hc3=>?_) fun hc3=>?_
 refine bG 7 [] ?_
 refine bT ?_
 rotate_left
 refine aM 9 [0] ?_
 apply cA 4 63 67 rfl
 intro hg1
 refine aA 7 [0] ?_
 exact cQ 4 0
 intro hg1
 refine aA 4 [] ?_
 exact cQ 4 0
 refine bR 2 [] ?_
 refine dL (fun hc4=>?_) fun hc4=>?_
 refine aM 6 [0] ?_
 apply dS 4 71 75 rfl
 intro hg1
 refine aA 7 [0] ?_
 exact cQ 4 0
 intro hg1
 refine aA 4 [] ?_
 exact cQ 4 0
 refine aA 1 [] ?_
 apply dS 4 76 80 rfl
 intro hg1
 refine aA 7 [0] ?_
 exact cQ 4 0
 intro hg1
 refine aA 4 [] ?_
 exact cQ 4 0
 refine aY 5 [] ?_
 refine bT ?_
 rotate_left
 refine aM 9 [0] ?_
 apply cA 4 84 88 rfl
 intro hg1
 refine aA 7 [0] ?_
 exact cQ 4 0
 intro hg1
 refine aA 4 [] ?_
 exact cQ 4 0
 refine bR 2 [] ?_
 refine dL (fun hc5=>?_) fun hc5=>?_
 refine aM 6 [0] ?_
 apply dS 4 92 96 rfl
 intro hg1
 refine aA 7 [0] ?_
 exact cQ 4 0
 intro hg1
 refine aA 4 [] ?_
 exact cQ 4 0
 refine aY 5 [] ?_
 refine bT ?_
 rotate_left
 refine bG 11 [0] ?_
 refine bT ?_
 rotate_left
 all_goals refine ⟨?_,rfl,rfl⟩
 all_goals simp only [Zd,Value.bool.injEq]
 all_goals first | rw [iH] | (symm;rw [dH])
 all_goals try simp only [*,eO,eP,qL]
 all_goals first | omega | (rintro ⟨_,h,_⟩;first | exact h | exact hc3 h)
theorem Qp {p:PV} {k:Nat} (h:k≤p.outs.length) (h':(k:Int)<(p.outs.length:Int)) (hb:p.outs[((k:Nat):Int).toNat]?.getD default<0∨p.regs≤p.outs[((k:Nat):Int).toNat]?.getD default):uQ p=false:=by
 have hl:k<p.outs.length:=rG
 have hx:p.outs[(k:Int).toNat]?.getD default∈p.outs:=by rw [aF,aC hl];simp
 have hf:(p.outs.all fun r=>decide (0≤r∧r<p.regs))=false:=by
  rw [qS]
  exact ⟨_,hx,by simp only [aQ];omega⟩
 unfold uQ;rw [hf,Bool.and_false]
theorem TP (G:Imm) (p:PV) (ac ao:Option Addr) (cc co:Nat) (hc:Arr G ac p.code) (ho:Arr G ao p.outs) (h1:p.code.length≤1099511627776) (h2:p.outs.length≤1099511627776) :
 Does Tryz.prog 132 [.agg #[.int .i64 p.ins,.int .i64 p.regs,.slice ac p.code.length cc,.slice ao p.outs.length co]] G [] (fun v G' Ho=>v=.tuple #[.int .i64 (tO p).1,.bool (decide ((tO p).2=true))]∧G'=G∧Ho=[]):=by
 refine D0 Tryz.func132 Tryz.ntmps132 fun w=>?_
 refine aM 2 [] ?_
 refine cV 0 fun b1=>?_
 refine aL 11 [0] ?_
 apply cA 6 9 15 rfl
 intro hg1
 refine aA 11 [0,0] ?_
 exact cQ 6 0
 intro hg1
 refine aA 6 [] ?_
 exact cQ 6 0
 refine aA 1 [] ?_
 apply cA 4 16 20 rfl
 intro hg1
 refine aA 7 [0] ?_
 exact cQ 4 0
 intro hg1
 refine aA 4 [] ?_
 exact cQ 4 0
 refine aA 1 [] ?_
 apply cA 5 21 26 rfl
 intro hg1
 refine aA 9 [0] ?_
 exact cQ 5 0
 intro hg1
 refine aA 5 [] ?_
 exact cQ 5 0
 refine aA 1 [] ?_
 apply cA 5 27 32 rfl
 intro hg1
 refine aA 9 [0] ?_
 exact cQ 5 0
 intro hg1
 refine aA 5 [] ?_
 exact cQ 5 0
 refine aA 1 [] ?_
 apply cA 5 33 38 rfl
 intro hg1
 refine aA 9 [0] ?_
 exact cQ 5 0
 intro hg1
 refine aA 5 [] ?_
 exact cQ 5 0
 refine bR 2 [] ?_
 refine dL (fun hc1=>?_) fun hc1=>?_
 refine bG 8 [] ?_
 refine eJ ?_
 rotate_left
 refine cJ 9 [] ?_
 rotate_left
 · refine ⟨?_,rfl,rfl⟩
   have:uQ p=false:=by unfold uQ;rw [bF rG];rfl
   simp [tO,this]
 refine fS (ι:=Nat) (fun k=>([(4,.int .i64 (k:Int)),(1,.pointer (some ⟨b1,0,none⟩))],[(0,some b1,.cells #[.int .i64 p.ins,.int .i64 p.regs,.slice ac p.code.length cc,.slice ao p.outs.length co] 26)])) (fun k=>k≤p.outs.length∧(p.outs.take k).all (fun r=>decide (0≤r∧r<p.regs))=true) (fun k=>p.outs.length - k) (0) (⟨aT _,rfl⟩) fun k=>fun hk=>?_
 obtain ⟨hk1,hk2⟩:=hk
 refine cJ 10 [0] ?_
 refine dL (fun hc2=>?_) fun hc2=>?_
 refine cJ 5 [] ?_
 refine dT [0] [] T.mixed [[0],[1,0],[2]] ?_
 refine iM (α:=Int) 3 T.sl24 ?_
 refine nW 4 [0] 0 T.one3 ?_
 refine eD [[5],[6]] ?_
 refine Gm.cases 52 rfl (fun hg1=>?_) fun hg1=>?_
 refine eD [[7],[8],[9],[10],[11],[12],[13],[14],[15]] ?_
 refine dY ?_
 refine iG 14 [1] ?_
 refine eJ ?_
 rotate_left
 refine eD [[7],[8,0],[9]] ?_
 refine pC 10 [] rfl (qP (α:=Int) T.sl24 rfl rfl rH rG) ?_
 refine pC 11 [0] rfl (eS T.one3 rfl (kZ rH rG 0 rfl rfl)) ?_
 refine eD [[12],[13,0],[14],[15]] ?_
 refine dY ?_
 refine cB ?_
 refine dL (fun hc3=>?_) fun hc3=>?_
 refine bG 12 [] ?_
 refine eJ ?_
 rotate_left
 refine bG 8 [] ?_
 rotate_left
 refine cJ 12 [] ?_
 rotate_left
 · refine ⟨?_,rfl,rfl⟩
   simp [tO,Qp hk1 hc2 (.inl hg1)]
 · refine ⟨?_,rfl,rfl⟩
   simp [tO,Qp hk1 hc2 (.inr hc3)]
 · refine cP (k+1) ?_ ?_
   · refine ⟨by omega,?_⟩
     rw [zM _ rG,hk2]
     simp only [jT,aQ]
     omega
   omega
 have hk:k=p.outs.length:=rG
 subst hk
 rw [gO] at hk2
 have hh:uQ p=true:=by
  unfold uQ
  rw [hk2,kY,aQ]
  omega
 clear hk1 hk2 hc2
 refine fS (ι:=Nat) (fun k=>([(5,.int .i64 (k:Int)),(1,.pointer (some ⟨b1,0,none⟩))],[(0,some b1,.cells #[.int .i64 p.ins,.int .i64 p.regs,.slice ac p.code.length cc,.slice ao p.outs.length co] 26)])) (fun k=>k≤p.code.length∧(p.code.take k).all (fun i=>vO i p.regs)=true) (fun k=>p.code.length - k) (0) (⟨aT _,rfl⟩) fun k=>fun hk=>?_
 obtain ⟨hk1,hk2⟩:=hk
 refine cJ 10 [0] ?_
 refine dL (fun hc2=>?_) fun hc2=>?_
 refine cJ 5 [] ?_
 refine dT [0] [] T.mixed [[0],[1,0],[2]] ?_
 refine iM (α:=Instr) 3 T.sl23 ?_
 refine oI 4 T.agg211 ?_
 refine eD [[5],[6,0]] ?_
 refine fE 7 ?_
 refine cG rfl (TO _ _ _) ?_
 refine eE ?_
 refine gR 8 [] rfl (eF rfl) ?_
 refine dY ?_
 refine cB ?_
 refine dL (fun hc3=>?_) fun hc3=>?_
 refine bG 13 [] ?_
 refine eJ ?_
 rotate_left
 refine bG 8 [] ?_
 rotate_left
 refine bG 12 [] ?_
 refine eJ ?_
 rotate_left
 · refine ⟨?_,rfl,rfl⟩
   have hl:k<p.code.length:=rG
   have:Fh p=some k:=Qo hl hk2 hc3
   simp [tO,hh,this]
 · refine cP (k+1) ?_ ?_
   · refine ⟨by omega,?_⟩
     rw [zM _ rG,hk2]
     simpa using hc3
   omega
 refine ⟨?_,rfl,rfl⟩
 have hk:k=p.code.length:=rG
 subst hk
 rw [gO] at hk2
 have:Fh p=none:=Ma hk2
 simp [tO,hh,this]
theorem RZ (G:Imm) (p:PV) (ac ao:Option Addr) (cc co:Nat) (hc:Arr G ac p.code) (ho:Arr G ao p.outs) (h1:p.code.length≤1099511627776) (h2:p.outs.length≤1099511627776) :
 Does Tryz.prog 76 [.agg #[.int .i64 p.ins,.int .i64 p.regs,.slice ac p.code.length cc,.slice ao p.outs.length co]] G [] (fun v G' Ho=>v=.bool (decide (rP p=true))∧G'=G∧Ho=[]):=by
 refine D0 Tryz.func76 Tryz.ntmps76 fun w=>?_
 refine aM 2 [] ?_
 refine cV 0 fun b1=>?_
 refine aL 6 [0] ?_
 refine cG rfl (TP _ _ _ _ _ _ rH rH rG rG) ?_
 refine aL 10 [] ?_
 refine aN (eF rfl) ?_
 refine aY 4 [] ?_
 refine bT ?_
 refine ⟨?_,rfl,rfl⟩
 cases h:(tO p).2 <;> simp [rP,h]
instance:DecidableEq PV:=fun a b=>by
 cases a;cases b;simp only [PV.mk.injEq];infer_instance
structure Tab where
 held:List Int
 known:List (K4×Int)
 first:List (K4×Int)
 next:Int
def start (p:PV):List Int:=(List.range p.regs.toNat).map fun r=>if (p.ins:Int)<((r:Nat):Int) then p.ins else ((r:Nat):Int)
theorem uZ {p:PV} (h:rP p=true):1≤p.ins∧p.ins≤p.regs∧p.regs≤128∧p.code.length≤16384∧1≤p.outs.length∧p.outs.length≤128∧(∀ r∈p.outs,0≤r∧r<p.regs)∧(∀ i∈p.code,vO i p.regs=true):=by
 unfold rP tO at h
 by_cases hh:uQ p=false
 · rw [aR hh] at h;cases h
 rw [aK hh] at h
 have hb:Fh p=none:=by
  cases hb:Fh p with
  | none=>rfl
  | some k=>rw [hb] at h;cases h
 have hh':uQ p=true:=by simpa using hh
 unfold uQ at hh'
 rw [aB,aQ,eZ] at hh'
 unfold Fh at hb
 rw [nX] at hb
 obtain ⟨⟨g1,g2,g3,g4,g5,g6⟩,g7⟩:=hh'
 refine ⟨g1,g2,g3,g4,g5,g6,fun r hr=>?_,fun i hi=>?_⟩
 · have:=g7 r hr;rw [aQ] at this;exact this
 simpa using hb i hi
section
variable {t:Tab} {out:List Sl.Instr} {n:Int} {i:Sl.Instr}
end
theorem get_mem {l:List Int} {r:Int} (h:0≤r∧r<l.length):l[r.toNat]?.getD default∈l:=by
 have hlt:r.toNat<l.length:=rG
 rw [aC hlt];exact dA hlt
def p2 (n:Nat):Int:=((2 ^ n:Nat):Int)
theorem Cm:p2 0=1:=rfl
theorem yR (n:Nat):p2 (n+1)=2*p2 n:=by unfold p2;rw [nK,oZ,eW];rfl
theorem vJ (n:Nat):0<p2 n:=by unfold p2;exact Int.ofNat_lt.2 (oB rW)
theorem zN (m n:Nat):p2 (m+n)=p2 m*p2 n:=by unfold p2;rw [lT,eW]
theorem Vw {m n:Nat} (h:m≤n):p2 m≤p2 n:=by unfold p2;exact pA.2 (fK rW h)
theorem Ze {a b:Nat} (h:p2 a<p2 b):a<b:=by
 rcases aJ a b with h1 | h1
 · exact h1
 have:=Vw h1;omega
def cst (i:Sl.Instr):Int:=if i.op=5∨i.op=6 then i.c else p2 i.c.toNat
theorem Qq {i:Sl.Instr} (h:i.op=5∨i.op=6):cst i=i.c:=aR h
theorem DP {i:Sl.Instr} (h:¬(i.op=5∨i.op=6)):cst i=p2 i.c.toNat:=aK h
theorem Qr (n:Nat):pw n=p2 (16*n):=by unfold pw p2;rw [Nat.pow_mul]
theorem Qs:p2 16=65536:=by unfold p2;decide
def tK (y:Int) (xs:List Int):Prop:=∀ i:Nat,i<xs.length→xs[i]?.getD 0 % y=0
instance (y:Int) (xs:List Int):Decidable (tK y xs):=by unfold tK;infer_instance
def wJ (i:Sl.Instr) (rs:List (List Int)):Option (List Int):=
 let a:=rs[i.a.toNat]?.getD []
 if i.op=2 then some (a.map (fun x=>-1*x))
 else if i.op=3 then some (List.zipWith (fun x y=>x+1*y) a (rs[i.b.toNat]?.getD []))
 else if i.op=4 then some (List.zipWith (fun x y=>x+(-1)*y) a (rs[i.b.toNat]?.getD []))
 else if i.op=5∨i.op=7 then some (a.map (fun x=>cst i*x))
 else if i.op=6∨i.op=8 then (if tK (cst i) a then some (a.map (· / cst i)) else none)
 else some a
def vA (p:PV) (gs:List (List Int)):List (List Int):=(List.range p.regs.toNat).map fun k=>if k<gs.length then gs[k]?.getD [] else List.replicate (gs[0]?.getD []).length 0
def wH (p:PV) (gs:List (List Int)):Nat→Option (List (List Int))
 | 0=>some (vA p gs)
 | k+1=>(wH p gs k).bind fun rs=>(wJ (p.code[((k:Nat):Int).toNat]?.getD default) rs).map fun x=>rs.set (p.code[((k:Nat):Int).toNat]?.getD default).to.toNat x
def tT (p:PV) (rs:List (List Int)):List (List Int):=p.outs.map fun r=>rs[r.toNat]?.getD []
def sC (p:PV) (gs:List (List Int)):Option (List (List Int)):=(wH p gs p.code.length).map (tT p)
theorem Ax {p:PV} {gs:List (List Int)} {k:Nat} {rs x:List (List Int)} {y:List Int} (h:wH p gs k=some rs) (hd:wJ (p.code[((k:Nat):Int).toNat]?.getD default) rs=some y) :
 wH p gs (k+1)=some (rs.set (p.code[((k:Nat):Int).toNat]?.getD default).to.toNat y):=by
 unfold wH;rw [h];simp only [iI,hd,eU]
theorem Tl {p:PV} {gs:List (List Int)} {k:Nat} (h:wH p gs k=none) (j:Nat):wH p gs (k+j)=none:=by
 induction j with
 | zero=>exact h
 | succ j ih=>rw [←jS];unfold wH;rw [ih];rfl
theorem Im {p:PV} {gs:List (List Int)} {k:Nat} {rs:List (List Int)} (h:wH p gs k=some rs) (hd:wJ (p.code[((k:Nat):Int).toNat]?.getD default) rs=none) (hk:k<p.code.length):sC p gs=none:=by
 have h1:wH p gs (k+1)=none:=by unfold wH;rw [h];simp only [iI,hd,jP]
 have h2:=Tl h1 (p.code.length - (k+1))
 rw [show k+1+(p.code.length - (k+1))=p.code.length by omega] at h2
 unfold sC;rw [h2];rfl
theorem DQ:∀ c:Nat,c≤64→((p2 c).natAbs:Int)<pw 5:=fun c hc=>by
 have h1:=Vw hc
 have h2:=vJ c
 have h3:p2 64<pw 5:=by unfold p2 pw;decide
 omega
theorem Eb {i:Sl.Instr} {regs:Int} (h:vO i regs=true):(1≤i.op∧i.op≤8)∧(0≤i.to∧i.to<regs)∧(0≤i.a∧i.a<regs)∧(i.op=3∨i.op=4→0≤i.b∧i.b<regs)∧yQ i.op i.c=true∧
 (i.op≠1→i.op≠2→i.op≠3→i.op≠4→cst i≠0∧((cst i).natAbs:Int)<pw 5)∧(i.op=5∨i.op=6→-9223372036854775808≤i.c∧i.c≤9223372036854775807)∧(¬(i.op=5∨i.op=6)→0≤i.c∧i.c≤64):=by
 unfold vO at h
 rw [aB,aB,aQ,eZ] at h
 obtain ⟨⟨⟨g1,g2,g3,g4,g5⟩,g6⟩,g7⟩:=h
 have hA:∀ r∈vM i,0≤r∧r<regs:=fun r hr=>by have:=g7 r hr;rwa [aQ] at this
 have ha:i.a∈vM i:=by
  unfold vM
  split
  · exact bL
  rw [aR ⟨g1,g2⟩];exact bL
 have hc:=g6
 unfold yQ at g6
 have k1:i.op=5∨i.op=6→i.c≠0∧-512≤i.c∧i.c≤512:=fun h=>by rw [aR h,aQ] at g6;exact g6
 have k2:¬(i.op=5∨i.op=6)→(i.op=7∨i.op=8→1≤i.c∧i.c≤64)∧(¬(i.op=7∨i.op=8)→i.c=0):=fun h=>by
  rw [aK h] at g6
  refine ⟨fun h2=>?_,fun h2=>?_⟩
  · rw [aR h2,aQ] at g6;exact g6
  rw [aK h2,aQ] at g6;exact g6
 refine ⟨⟨g1,g2⟩,⟨g3,g4⟩,hA _ ha,fun h34=>hA _ (by unfold vM;rw [aR h34];exact bB _ bL),hc,fun n1 n2 n3 n4=>?_,fun h56=>by have:=k1 h56;omega,fun h56=>?_⟩
 · by_cases h56:i.op=5∨i.op=6
   · rw [Qq h56]
     have:=k1 h56
     have h3:(65536:Int)<pw 5:=by unfold pw;decide
     exact ⟨this.1,by omega⟩
   rw [DP h56]
   have h2:=(k2 h56).1 rG
   have:=vJ i.c.toNat
   exact ⟨by omega,DQ _ rG⟩
 by_cases h78:i.op=7∨i.op=8
 · have:=(k2 h56).1 h78;omega
 have:=(k2 h56).2 h78;omega
theorem Ad (p:PV) (gs:List (List Int)):(vA p gs).length=p.regs.toNat:=by unfold vA;rw [bS,gY]
theorem Cn {p:PV} {gs:List (List Int)} {k:Nat} (hk:k<p.regs.toNat):(vA p gs)[k]?.getD []=if k<gs.length then gs[k]?.getD [] else List.replicate (gs[0]?.getD []).length 0:=by
 unfold vA
 rw [cF,fD hk];rfl
theorem DR {l:List U32} {m:Nat} (h0:0<l.length) (hd:Digs l) (hm:dg l (l.length - 1)<p2 m):rJ l<p2 (16*(l.length - 1)+m):=by
 have e:=tS l (l.length - 1)
 rw [lI h0,rQ (aH _)] at e
 have h1:=uU (hd.take (l.length - 1))
 rw [bC,cS rG] at h1
 have h2:=aW (show dg l (l.length - 1)+1≤p2 m by omega) (bK (uW (l.length - 1)))
 rw [bI,fL] at h2
 rw [zN,←Qr]
 omega
theorem IX (t:Int) (m:Nat):t / 2*p2 (m+1)≤t*p2 m:=by
 rw [yR,←bM]
 exact cX rG (bK (vJ m))
theorem IY (t:Int) (m:Nat):(t+1)*p2 m≤(t / 2+1)*p2 (m+1):=by
 rw [yR,←bM]
 exact cX rG (bK (vJ m))
section
attribute [local irreducible] rJ pw sB p2
theorem TQ (G:Imm) (a:Option Addr) (c:Nat) (l:List U32) (ha:Arr G a l) (hd:Digs l) (h1:l.length≤536870912) :
 Does Tryz.prog 153 [.slice a l.length c] G [] (fun v G' Ho=>∃ n:Nat,v=.int .i64 (n:Int)∧rJ l<p2 n∧n≤16*l.length∧G'=G∧Ho=[]):=by
 refine D0 Tryz.func153 Tryz.ntmps153 fun w=>?_
 by_cases h0:l.length=0
 · refine bG 21 [1] ?_
   refine bT ?_
   refine ⟨0,rfl,?_,aT _,rfl,rfl⟩
   rw [bW h0,sV,Cm];decide
 have hlast:(l[((l.length:Int) - 1).toNat]?.getD default).v=dg l (l.length - 1):=by
  unfold dg;rw [show ((l.length:Int) - 1).toNat=((l.length - 1:Nat):Int).toNat by omega]
 have hdl:=xQ hd (i:=l.length - 1) rG
 refine aM 21 [0] ?_
 refine aN (Qy.mul rfl rfl rG) ?_
 refine aL 9 [] ?_
 refine dI (α:=U32) T.sl87 ?_
 refine fJ 0 T.one166 ?_
 refine bR 5 [] ?_
 refine iP 4 rfl (show _=Value.int .u32 (dg l (l.length - 1)) by rw [hlast]) (iP 3 rfl (show _=Value.int .i64 (16*((l.length:Int) - 1)+((0:Nat):Int)) by rw [Int.natCast_zero,dB]) ?_)
 refine fS (ι:=Nat×Int) (fun (m,t)=>([(3,.int .i64 (16*((l.length:Int) - 1)+(m:Int))),(4,.int .u32 t),(2,.int .i64 0)],[])) (fun (m,t)=>0≤t∧t≤65535∧t*p2 m≤dg l (l.length - 1)∧dg l (l.length - 1)<(t+1)*p2 m∧m≤16) (fun (m,t)=>t.toNat) ((0,dg l (l.length - 1))) (⟨hdl.1,by omega,by rw [Cm];omega,by rw [Cm];omega,by decide⟩) fun ⟨m,t⟩=>fun hk=>?_
 obtain ⟨ht0,ht1,hlo,hhi,hm⟩:=hk
 by_cases ht:0<t
 · have hm15:m<16:=by
    refine Ze ?_
    have h2:=cX (show (1:Int)≤t by omega) (bK (vJ m))
    rw [Qs];omega
   refine aM 20 [1] ?_
   refine aN (oO rfl rfl rG) ?_
   refine aY 3 [] ?_
   refine dC 3 rfl (show _=Value.int .i64 (16*((l.length:Int) - 1)+((m+1:Nat):Int)) by congr 1;omega) ?_
   refine cP ((m+1,t / 2)) ?_ ?_
   · exact ⟨by omega,by omega,Int.le_trans (IX t m) hlo,iL hhi (IY t m),by omega⟩
   show (t / 2).toNat<t.toNat
   omega
 have htz:t=0:=rG
 subst htz
 rw [iU,fB] at hhi
 refine bG 20 [0] ?_
 refine bT ?_
 refine ⟨16*(l.length - 1)+m,?_,DR rG hd hhi,by omega,rfl,rfl⟩
 congr 1;omega
theorem IZ {l:List U32} (hd:Digs l) {k:Nat} (hk:k<16*l.length):rJ l / p2 k % 2=dg l (k / 16) / p2 (k % 16) % 2:=by
 have hq:k / 16<l.length:=rG
 have e:=Ac l (m:=k / 16+1) rG
 rw [tS] at e
 have h1:=uU (hd.take (k / 16))
 have h0:=sQ (hd.take (k / 16))
 rw [bC,cS rG] at h1
 have ek:p2 k=pw (k / 16)*p2 (k % 16):=by rw [Qr,←zN,gZ]
 have e2:rJ l=rJ (l.take (k / 16))+(dg l (k / 16)+65536*rJ (l.drop (k / 16+1)))*pw (k / 16):=by
  rw [e,vF,iX,cI (dg l (k / 16)),bM 65536 (pw (k / 16)),bM 65536 (rJ _),cI (rJ (l.drop _)) (pw _)]
  omega
 have e3:rJ l / pw (k / 16)=dg l (k / 16)+65536*rJ (l.drop (k / 16+1)):=by
  rw [e2,Int.add_mul_ediv_right _ _ (iW (uW _)),iA h0 h1,iU]
 rw [ek,←Int.ediv_ediv_of_nonneg (bK (uW _)),e3]
 obtain ⟨r,hr⟩:∃ r,16=k % 16+(r+1):=⟨15 - k % 16,by omega⟩
 have e4:p2 16=p2 (k % 16)*(2*p2 r):=(congrArg p2 hr).trans (by rw [zN,yR])
 rw [Qs] at e4
 have e5:65536*rJ (l.drop (k / 16+1))=p2 (k % 16)*(2*(p2 r*rJ (l.drop (k / 16+1)))):=by rw [e4,bM,bM]
 rw [e5,mP _ _ (iW (vJ _))]
 omega
theorem DS {x y:Int} (hy:0≤y):x.fdiv y=x / y:=nV x hy
theorem TR (G:Imm) (a:Option Addr) (c:Nat) (l:List U32) (k:Nat) (ha:Arr G a l) (hd:Digs l) (h1:l.length≤536870912) (hk:k<16*l.length) :
 Does Tryz.prog 156 [.slice a l.length c,.int .i64 (k:Int)] G [] (fun v G' Ho=>v=.int .u32 (rJ l / p2 k % 2)∧G'=G∧Ho=[]):=by
 have hq:k / 16<l.length:=rG
 have hdg:=xQ hd hq
 refine D0 Tryz.func156 Tryz.ntmps156 fun w=>?_
 refine aM 9 [] ?_
 refine aN (mY rfl rfl rG) ?_
 refine dI (α:=U32) T.sl87 ?_
 refine fJ 0 T.one166 ?_
 refine aA 1 [] ?_
 refine aN (jA rfl rfl rG) ?_
 refine aN (nE rfl rfl rG) ?_
 refine aN (lB rfl rfl) ?_
 refine aY 4 [] ?_
 refine bT ?_
 refine ⟨?_,rfl,rfl⟩
 have e1:(l[((k:Int) / 16).toNat]?.getD default).v=dg l (k / 16):=by
  unfold dg;rw [show ((k:Int) / 16).toNat=((k / 16:Nat):Int).toNat by omega]
 have e2:(2:Int) ^ min ((k:Int) % 16).toNat IntKind.u32.bits=p2 (k % 16):=by
  have e:min ((k:Int) % 16).toNat IntKind.u32.bits=k % 16:=by
   rw [show IntKind.u32.bits=32 from rfl];omega
  rw [e,show p2 (k % 16)=((2 ^ (k % 16):Nat):Int) from by unfold p2;rfl,pI];rfl
 have h2:=Nq (n:=p2 (k % 16)) hdg.1 (vJ _)
 rw [e1,e2,DS (bK (vJ _)),Pw _ rG,IZ hd hk]
end
end Go.Proofs.YtngphgeghfdjbaaGreatDoor
namespace Go.Proofs.YtngphgeghfdjbaaGreatDoor.T
open Go Go.Sl
theorem fld93_1:∀ (w:World) (v0 v1:Value),(Instr.field 93 (.agg #[v0,v1]) 1).run Tryz.prog w=.ok (#[v0,v1][1]?.getD undef) w:=fun _ _ _=>rR
end Go.Proofs.YtngphgeghfdjbaaGreatDoor.T
namespace Go.Proofs.YtngphgeghfdjbaaGreatDoor
open Go Go.Sl
theorem Mb {l:List U32} {i:Nat} (h:i<l.length):rJ (l.drop i)=dg l i+65536*rJ (l.drop (i+1)):=by
 rw [gL h,tL]
 unfold dg
 rw [aF,aC h];rfl
theorem ME {l:List U32} {i:Nat} (h:i<l.length) (d:Int):dg (l.set i ⟨d⟩) i=d:=by
 unfold dg
 rw [aF,aC (by rw [aG];exact h),List.getElem_set_self];rfl
theorem Tm {la q:List U32} {i:Nat} {r B:Int} (hi:i<la.length) (hq:i<q.length) (hv:rJ (la.drop (i+1))=rJ (q.drop (i+1))*B+r) :
 rJ (la.drop i)=rJ ((q.set i ⟨(r*65536+dg la i) / B⟩).drop i)*B+(r*65536+dg la i) % B:=by
 rw [Mb hi,Mb (l:=q.set i _) (by rw [aG];exact hq),ME hq,nH rG,hv]
 have h:=fW (r*65536+dg la i) B
 rw [iX,cI ((r*65536+dg la i) / B) B,bM 65536,bI]
 omega
theorem DT {r a B:Int} (hr:0≤r∧r<B) (ha:0≤a∧a<65536):0≤(r*65536+a) / B∧(r*65536+a) / B<65536:=by
 refine ⟨lD rG rG,jU rG ?_⟩
 have h1:=cX (show r+1≤B by omega) (show (0:Int)≤65536 by decide)
 rw [cI 65536 B]
 omega
theorem Ny {lb:List U32} (h:lb.length=1):rJ lb=dg lb 0:=by
 match lb,h with
 | [d],_=>rw [Ce];rfl
def DU (G:Imm) (la lb:List U32) (v:Value):Prop:=∃ (qa ra:Option Addr) (qc rc:Nat) (lq lr:List U32),v=.tuple #[.slice qa lq.length qc,.slice ra lr.length rc]∧Arr G qa lq∧Arr G ra lr∧Digs lq∧Top lq∧Digs lr∧Top lr∧
 rJ la=rJ lq*rJ lb+rJ lr∧rJ lr<rJ lb∧lq.length≤qc∧lr.length≤rc∧lq.length≤la.length
section
attribute [local irreducible] rJ pw sB p2
theorem OO (G:Imm) (a b:Option Addr) (ca cb:Nat) (la lb:List U32) (ha:Arr G a la) (hb:Arr G b lb) (da:Digs la) (db:Digs lb) (tb:Top lb) (h1:la.length≤536870912) (hl1:lb.length=1) :
 Does Tryz.prog 105 [.slice a la.length ca,.slice b lb.length cb] G [] (fun v G' Ho=>DU G' la lb v∧Ho=[]):=by
 have hB:0<dg lb 0:=by
  rw [←Ny hl1];exact Gk db tb (fun e=>by rw [e] at hl1;simp at hl1)
 have hB2:=xQ db (show 0<lb.length by omega)
 have hb0:(lb[((0:Nat):Int).toNat]?.getD default).v=dg lb 0:=rfl
 refine D0 Tryz.func105 Tryz.ntmps105 fun w=>?_
 refine aM 19 [1] ?_
 refine gT (α:=U32) 0 rfl T.sl87 T.el166 rfl rfl rG rG fun b1=>?_
 refine bR 18 [] ?_
 obtain ⟨N,hN⟩:∃ N,N=la.length:=⟨_,rfl⟩
 have hM:(la.length:Int).toNat=N:=rG
 rw [hM]
 have hown:∀ r:List U32,r.length=N→OwnA (some ⟨b1,0,none⟩) N r []:=fun r hr=>.inr ⟨b1,rfl,by rw [hr];rfl,by omega,by simp only [maxLen];omega⟩
 refine iP 6 rfl (show _=Value.slice (some ⟨b1,0,none⟩) (List.replicate N (default:U32)).length N by rw [aE]) ?_
 refine fS (ι:=Nat×Int×List U32) (fun (k,r,q)=>([(8,.int .i64 ((k:Int) - 1)),(7,.int .u64 r),(6,.slice (some ⟨b1,0,none⟩) q.length N),(5,.slice none 0 0),(4,.slice none 0 0),(0,.slice a (List.length la) ca),(1,.slice b (List.length lb) cb)],[(0,some b1,rV 166 q [])])) (fun (k,r,q)=>k≤la.length∧q.length=N∧Digs q∧0≤r∧r<dg lb 0∧rJ (la.drop k)=rJ (q.drop k)*dg lb 0+r) (fun (k,r,q)=>k) ((la.length,0,List.replicate N (default:U32))) (⟨aH _,aE,qG N,by decide,hB,by rw [eC (aH _),eC Hh,sV,gA];rfl⟩) fun ⟨k,r,q⟩=>fun hk=>?_
 obtain ⟨hk1,hqN,hdq,hr0,hr1,hv⟩:=hk
 have hoq:=hown q hqN
 rcases eQ k with rfl | hpos
 · rw [jE,jE] at hv
   have hcap:=hoq.le
   refine aM 16 [0] ?_
   refine cN 0 rfl hoq fun G8 hle8 hA=>?_
   refine bU 1 rfl (vI _ _ _ _ _ rH Hg BA) fun v1 G1 Ho1 hle1 hp=>?_
   obtain ⟨tn1,rfl,htr1,rfl,rfl⟩:=hp
   refine aN (rC T.fld93_1 rfl rfl) ?_
   refine aA 1 [] ?_
   refine aN (gB rfl T.u166 rfl rG) ?_
   refine fC (α:=U32) 1 [⟨r⟩] rfl T.sl87 T.el166 rfl rfl rfl rfl rfl fun b2=>?_
   have hdr:Digs [(⟨r⟩:U32)]:=oT rG
   refine cN 1 rfl (iS (xs:=[(⟨r⟩:U32)]) Hj) fun G9 hle9 hA2=>?_
   replace hA:=hA.up hle9
   refine bU 2 rfl (vI _ _ _ _ _ rH Hg BA) fun v2 G2 Ho2 hle2 hp=>?_
   obtain ⟨tn2,rfl,htr2,rfl,rfl⟩:=hp
   refine aN (rC T.fld93_1 rfl rfl) ?_
   refine aY 6 [] ?_
   refine eJ ?_
   refine ⟨⟨subA (some ⟨b1,0,none⟩) N 0 1,subA (some ⟨b2,0,none⟩) 1 0 1,N,1,q.take tn1,[(⟨r⟩:U32)].take tn2,?_,Gr hA _,Gr hA2 _,hdq.take _,htr1.top,hdr.take _,htr2.top,?_,?_,?_,?_,?_⟩,rfl⟩
   · rw [htr1.len,htr2.len];rfl
   · rw [htr1.val,htr2.val,Ce,Ny hl1];exact hv
   · rw [htr2.val,Ce,Ny hl1];exact hr1
   · rw [htr1.len];exact aP htr1.1 hcap
   · rw [htr2.len];exact htr2.1
   rw [htr1.len,←hN,←hqN];exact htr1.1
 obtain ⟨i,rfl⟩:∃ i,k=i+1:=⟨k - 1,by omega⟩
 have hai:=xQ da (show i<la.length by omega)
 have ei:(((i+1:Nat):Int) - 1).toNat=i:=rG
 have eA:(la[(((i+1:Nat):Int) - 1).toNat]?.getD default).v=dg la i:=by unfold dg;rw [ei,aF]
 have hsl:=DT ⟨hr0,hr1⟩ hai
 have hb1:0<(lb[(0:Int).toNat]?.getD default).v:=hB
 have hb2:(lb[(0:Int).toNat]?.getD default).v<65536:=hB2.2
 have hsl':0≤(r*65536+(la[(((i+1:Nat):Int) - 1).toNat]?.getD default).v) / (lb[(0:Int).toNat]?.getD default).v∧(r*65536+(la[(((i+1:Nat):Int) - 1).toNat]?.getD default).v) / (lb[(0:Int).toNat]?.getD default).v≤65535:=by
  rw [eA]
  exact ⟨hsl.1,by have:=hsl.2;show _ / dg lb 0≤_;omega⟩
 have hrm:0≤(r*65536+dg la i) % dg lb 0∧(r*65536+dg la i) % dg lb 0<dg lb 0:=⟨hJ _ rG,dX _ hB⟩
 refine aM 15 [1] ?_
 refine aN (mS rfl rfl tU) ?_
 refine aA 2 [] ?_
 refine dI (α:=U32) T.sl87 ?_
 refine fJ 0 T.one166 ?_
 refine aN (bZ rfl T.u165 rfl rG) ?_
 refine aN (fV rfl rfl rG) ?_
 refine aL 9 [] ?_
 refine dI (α:=U32) T.sl87 ?_
 refine lH rfl (eS T.one166 rfl (kZ rH rG 0 rfl rfl)) ?_
 refine aN (bZ rfl T.u165 rfl rG) ?_
 refine aN (nN rfl rfl rG) ?_
 refine aN (gB rfl T.u166 rfl rG) ?_
 refine fP (α:=U32) T.sl87 ?_
 refine eT (z:=_) 0 T.size166 rfl rfl rfl rH rG rfl fun ho1=>?_
 refine aL 5 [] ?_
 refine dI (α:=U32) T.sl87 ?_
 refine lH rfl (eS T.one166 rfl (kZ rH rG 0 rfl rfl)) ?_
 refine aN (bZ rfl T.u165 rfl rG) ?_
 refine aN (jA rfl rfl rG) ?_
 refine aY 9 [] ?_
 rw [eA]
 refine dC 8 rfl (show _=Value.int .i64 ((i:Int) - 1) by congr 1;omega) ?_
 refine iD 0 (rV 166 (q.set i ⟨(r*65536+dg la i) / dg lb 0⟩) []) rfl (by rw [ei];rfl) ?_
 refine dC 6 rfl (show _=Value.slice (some ⟨b1,0,none⟩) (q.set i ⟨(r*65536+dg la i) / dg lb 0⟩).length N by rw [aG]) ?_
 refine cP ((i,(r*65536+dg la i) % dg lb 0,q.set i ⟨(r*65536+dg la i) / dg lb 0⟩)) ?_ ?_
 · exact ⟨by omega,by rw [aG];exact hqN,xY hdq _ hsl,hrm.1,hrm.2,Tm rG rG hv⟩
 show i<i+1
 omega
end
theorem DW {α:Type} [Cells α] (E:TypeId) (xs:List α) (j:List Value) (n:Nat):rV E xs j=rV E (xs.take n) (rX (xs.drop n)++j):=by
 unfold rV
 rw [←dJ,←tV,cU]
theorem DX {α:Type} [Cells α] {a:Option Addr} {c:Nat} {xs:List α} {j:List Value} (h:OwnA a c xs j) (n:Nat):OwnA a c (xs.take n) (rX (xs.drop n)++j):=by
 rcases h with ⟨h1,rfl,rfl,h4⟩ | ⟨b,h1,h2,h3,h4⟩
 · exact .inl ⟨h1,by simp,by simp [rX],h4⟩
 refine .inr ⟨b,h1,?_,?_,h4⟩
 · rw [aI,rT,←jS,←eL,←aI,cU];exact h2
 rw [bC];omega
theorem Zf {l:List U32} (hd:Digs l) (h0:l≠[]) (h:pw (l.length - 1)≤rJ l):Top l:=by
 refine .inr fun hz=>?_
 have hl:0<l.length:=nG.2 h0
 have e:=tS l (l.length - 1)
 have hz':dg l (l.length - 1)=0:=by unfold dg;rw [aF];exact hz
 rw [lI hl,rQ (aH _),hz',cC,dB] at e
 have h1:=uU (hd.take (l.length - 1))
 rw [bC,cS rG] at h1
 omega
theorem wB {l m:List U32} (hl:Digs l) (hm:Digs m) (tm:Top m) (h:rJ m≤rJ l):m.length≤l.length:=by
 rcases aJ l.length m.length with h1 | h1
 · have:=xB hl hm tm h1;omega
 exact h1
theorem DY {l:List U32} {i:Nat} (h:i<l.length) (d:U32):(l.set i d).take (i+1)=l.take i++[d]:=by
 rw [eG,jB (aH _),List.getElem?_set_self h];rfl
theorem JA {r s:List U32} {i:Nat} (h:s.drop i=r.drop i):dg s i=dg r i:=by
 have e:s[i]?=r[i]?:=by
  have:=congrArg (·[0]?) h
  simpa [eR] using this
 unfold dg;rw [aF,e]
theorem Kw {r s:List U32} {i:Nat} (h:s.drop i=r.drop i) (d:U32):(s.set i d).drop (i+1)=r.drop (i+1):=by
 rw [nH rG,←mE,←mE,h]
theorem Tn {r s:List U32} {i:Nat} {c c0:Int} (hi:i<s.length) (hd:s.drop i=r.drop i) (hv:rJ (s.take i)+pw i*c=2*rJ (r.take i)+c0) :
 rJ ((s.set i ⟨(c+2*dg s i) % 65536⟩).take (i+1))+pw (i+1)*((c+2*dg s i) / 65536)=2*rJ (r.take (i+1))+c0:=by
 rw [DY hi,wR,bC,cS (Nat.le_of_lt hi),tS,vF,←JA hd]
 have h:=Vp (pw i) (c+2*dg s i)
 rw [bI,dK] at h
 show rJ (s.take i)+pw i*((c+2*dg s i) % 65536)+65536*pw i*((c+2*dg s i) / 65536)=_
 omega
theorem DZ (x:Int) (e:Nat):x / p2 e=2*(x / p2 (e+1))+x / p2 e % 2:=by
 rw [yR,cI 2 (p2 e),←Int.ediv_ediv_of_nonneg (bK (vJ e))]
 omega
theorem EA {q:List U32} (hd:Digs q) {e:Nat} {Q:Int} (he:e / 16<q.length) (h:rJ q=p2 (e+1)*Q):dg q (e / 16) % p2 (e % 16+1)=0:=by
 have e0:=Ac q (m:=e / 16+1) rG
 rw [tS,vF] at e0
 have h1:=uU (hd.take (e / 16))
 have h0:=sQ (hd.take (e / 16))
 rw [bC,cS rG] at h1
 have ek:p2 (e+1)=pw (e / 16)*p2 (e % 16+1):=by rw [Qr,←zN,←jS,gZ]
 obtain ⟨r,hr⟩:∃ r,16=e % 16+1+r:=⟨15 - e % 16,by omega⟩
 have e4:p2 16=p2 (e % 16+1)*p2 r:=(congrArg p2 hr).trans (by rw [zN])
 rw [Qs] at e4
 have e2:rJ (q.take (e / 16))+pw (e / 16)*(dg q (e / 16)+p2 (e % 16+1)*(p2 r*rJ (q.drop (e / 16+1))))=pw (e / 16)*(p2 (e % 16+1)*Q):=by
  rw [←bM (pw (e / 16)) (p2 (e % 16+1)) Q,←ek,←h,e0,bI,←bM (p2 (e % 16+1)) (p2 r),←e4,←bM (pw (e / 16)) 65536,cI (pw (e / 16)) 65536]
  omega
 have e3:dg q (e / 16)+p2 (e % 16+1)*(p2 r*rJ (q.drop (e / 16+1)))=p2 (e % 16+1)*Q:=by
  have h2:=congrArg (fun z=>z / pw (e / 16)) e2
  rw [mP _ _ (iW (uW _)),iA h0 h1,iU,Int.mul_ediv_cancel_left _ (iW (uW _))] at h2
  exact h2
 have e5:dg q (e / 16)=p2 (e % 16+1)*(Q - p2 r*rJ (q.drop (e / 16+1))):=by rw [iF];omega
 rw [e5];exact Int.mul_emod_right _ _
theorem EC {q:List U32} {e:Nat} {Q:Int} (he:e / 16<q.length) (h:rJ q=p2 (e+1)*Q):rJ (q.set (e / 16) ⟨dg q (e / 16)+p2 (e % 16)⟩)=p2 e*(2*Q+1):=by
 have ek:p2 e=pw (e / 16)*p2 (e % 16):=by rw [Qr,←zN,gZ]
 rw [Cl q (e / 16) _ he,h,yR,bI,fL]
 show 2*p2 e*Q+pw (e / 16)*(dg q (e / 16)+p2 (e % 16) - dg q (e / 16))=_
 rw [show dg q (e / 16)+p2 (e % 16) - dg q (e / 16)=p2 (e % 16) by omega,←ek,dK (p2 e) 2 Q,bM 2 (p2 e) Q]
theorem ED {q:List U32} (hd:Digs q) {e:Nat} (he:e / 16<q.length) (hz:dg q (e / 16) % p2 (e % 16+1)=0):0≤dg q (e / 16)+p2 (e % 16)∧dg q (e / 16)+p2 (e % 16)<65536:=by
 have h1:=xQ hd he
 have h2:=vJ (e % 16)
 obtain ⟨r,hr⟩:∃ r,16=e % 16+1+r:=⟨15 - e % 16,by omega⟩
 have e4:p2 16=p2 (e % 16+1)*p2 r:=(congrArg p2 hr).trans (by rw [zN])
 rw [Qs] at e4
 obtain ⟨y,hy⟩:∃ y,dg q (e / 16)=p2 (e % 16+1)*y:=⟨_,(Int.mul_ediv_cancel' (Int.dvd_of_emod_eq_zero hz)).symm⟩
 have hlt:y<p2 r:=by
  rw [hy,e4] at h1
  exact nY h1.2 (bK (vJ _))
 have h3:=aW (show y+1≤p2 r by omega) (bK (vJ (e % 16+1)))
 rw [bI,fL,←e4,←hy,yR] at h3
 omega
theorem Vx (n:Nat):p2 n=((2 ^ n:Nat):Int):=rfl
theorem Vy {e:Nat}:IntKind.u32.wrap (1*2 ^ min ((e:Int) % 16).toNat IntKind.u32.bits)=p2 (e % 16):=by
 have e1:min ((e:Int) % 16).toNat IntKind.u32.bits=e % 16:=by
  rw [show IntKind.u32.bits=32 from rfl];omega
 have e2:(2:Int) ^ (e % 16)=p2 (e % 16):=by rw [Vx,pI];rfl
 have h1:p2 (e % 16)≤p2 16:=Vw rG
 rw [Qs] at h1
 have h2:=vJ (e % 16)
 rw [e1,e2,fB,mF _ rG]
theorem MF {q:List U32} {e:Nat} (h:0≤dg q (e / 16)∧dg q (e / 16)<65536) (hz:dg q (e / 16) % p2 (e % 16+1)=0) :
 bits BinOp.or IntKind.u32 (q[((e:Int) / 16).toNat]?.getD default).v (IntKind.u32.wrap (1*2 ^ min ((e:Int) % 16).toNat IntKind.u32.bits))=dg q (e / 16)+p2 (e % 16):=by
 have e1:(q[((e:Int) / 16).toNat]?.getD default).v=dg q (e / 16):=by
  unfold dg;rw [show ((e:Int) / 16).toNat=((e / 16:Nat):Int).toNat by omega]
 rw [Vy,e1,Vx (e % 16)]
 exact Tb _ _ h rG hz
section
attribute [local irreducible] rJ pw sB p2
theorem OP (G:Imm) (a b:Option Addr) (ca cb:Nat) (la lb:List U32) (ha:Arr G a la) (hb:Arr G b lb) (da:Digs la) (db:Digs lb) (tb:Top lb) (h1:la.length≤536870912) (h2:lb.length≤536870912) (hl1:lb.length≠1) (hB:0<rJ lb) :
 Does Tryz.prog 105 [.slice a la.length ca,.slice b lb.length cb] G [] (fun v G' Ho=>DU G' la lb v∧Ho=[]):=by
 refine D0 Tryz.func105 Tryz.ntmps105 fun w=>?_
 refine fU 50 (rV 166 ([]:List U32) []) ?_
 refine aM 21 [0] ?_
 refine gT (α:=U32) 51 rfl T.sl87 T.el166 rfl rfl rG rG fun b1=>?_
 refine aL 12 [] ?_
 refine bU 52 rfl (TQ _ _ _ _ rH rH rH) fun v1 G1 Ho1 hle1 hp=>?_
 obtain ⟨nb1,rfl,hnv1,hnl1,rfl,rfl⟩:=hp
 refine bR 5 [] ?_
 obtain ⟨N,hN⟩:∃ N,N=la.length:=⟨_,rfl⟩
 have hM:(la.length:Int).toNat=N:=rG
 rw [hM]
 have hown:∀ r:List U32,r.length=N→OwnA (some ⟨b1,0,none⟩) N r []:=fun r hr=>.inr ⟨b1,rfl,by rw [hr];rfl,by omega,by simp only [maxLen];omega⟩
 refine iP 9 rfl (show _=Value.slice (some ⟨b1,0,none⟩) (List.replicate N (default:U32)).length N by rw [aE]) ?_
 have hstart:rJ la / p2 nb1=0:=iA (sQ da) hnv1
 refine pU (ι:=Nat×Int×List U32×List U32×(Option Addr×Nat×List Value)) (fun (k,Q,q,r,(o,d,j))=>([(11,.int .i64 ((k:Int) - 1)),(9,.slice (some ⟨b1,0,none⟩) q.length N),(10,.slice o r.length d),(5,.slice none 0 0),(4,.slice none 0 0),(0,.slice a (List.length la) ca),(1,.slice b (List.length lb) cb)],[(51,some b1,rV 166 q []),(50,o.map (·.block),rV 166 r j)])) (fun (k,Q,q,r,(o,d,j))=>k≤nb1∧q.length=N∧Digs q∧Digs r∧Top r∧rJ q=p2 k*Q∧rJ la / p2 k=Q*rJ lb+rJ r∧rJ r<rJ lb∧r.length≤lb.length∧OwnA o d r j) (fun (k,Q,q,r,(o,d,j))=>k) ((nb1,0,List.replicate N (default:U32),[],(none,0,[]))) (⟨aH _,aE,qG N,pQ,Top.nil,by rw [cC];exact xA N,by rw [hstart,gA,sV];rfl,by rw [sV];exact hB,aT _,fF⟩) ⟨rfl,rfl,rfl,rfl,rfl,rfl,rfl,trivial⟩ ⟨rfl,rfl,trivial⟩ fun ⟨k,Q,q,r,(o,d,j)⟩=>fun hk=>?_
 obtain ⟨hk1,hqN,hdq,hdr,htr,hvq,hva,hrB,hrl,hob⟩:=hk
 have hoq:=hown q hqN
 rcases eQ k with rfl | hpos
 · rw [Cm,Int.ediv_one] at hva
   rw [Cm,fB] at hvq
   have hcap:=hoq.le
   have hcap2:=hob.le
   refine aM 16 [0] ?_
   refine cN 51 rfl hoq (fun G8 hle8 hA=>cN 50 rfl hob (fun G9 hle9 hA2=>?_))
   replace hA:=hA.up hle9
   refine bU 52 rfl (vI _ _ _ _ _ rH Hg BA) fun v2 G2 Ho2 hle2 hp=>?_
   obtain ⟨tn2,rfl,htr2,rfl,rfl⟩:=hp
   refine aN (rC T.fld93_1 rfl rfl) ?_
   refine aY 6 [] ?_
   refine eJ ?_
   refine ⟨⟨subA (some ⟨b1,0,none⟩) N 0 1,o,N,d,q.take tn2,r,?_,Gr hA _,hA2,hdq.take _,htr2.top,hdr,htr,?_,hrB,?_,hcap2,?_⟩,rfl⟩
   · rw [htr2.len];rfl
   · rw [htr2.val,hvq];exact hva
   · rw [htr2.len];exact aP htr2.1 hcap
   rw [htr2.len,←hN,←hqN];exact htr2.1
 obtain ⟨e,rfl⟩:∃ e,k=e+1:=⟨k - 1,by omega⟩
 have he16:e<16*la.length:=rG
 refine iP 11 rfl (show _=Value.int .i64 (e:Int) by congr 1;omega) ?_
 have hbit:0≤rJ la / p2 e % 2∧rJ la / p2 e % 2≤1:=rG
 have hhb:=DZ (rJ la) e
 generalize hc:rJ la / p2 e % 2=c0 at *
 refine aM 16 [1] ?_
 refine cG rfl (TR _ _ _ _ _ rH rH rH rH) ?_
 refine bR 10 [] ?_
 refine iP 12 rfl (show _=Value.int .u32 c0 by rw [hc]) ?_
 refine fS (ι:=Nat×Int×List U32) (fun (i,c,s)=>([(13,.int .i64 (i:Int)),(12,.int .u32 c),(10,.slice o s.length d),(0,.slice a la.length ca),(1,.slice b lb.length cb),(11,.int .i64 (↑e:Int)),(9,.slice (some (Addr.mk b1 0 none)) (List.length q) N),(5,.slice none 0 0),(4,.slice none 0 0)],[(50,o.map (·.block),rV 166 s j),(51,some b1,rV (α:=Go.Sl.U32) 166 (q) ([]))])) (fun (i,c,s)=>i≤r.length∧s.length=r.length∧Digs s∧0≤c∧c≤1∧rJ (s.take i)+pw i*c=2*rJ (r.take i)+c0∧s.drop i=r.drop i∧OwnA o d s j) (fun (i,c,s)=>r.length - i) ((0,c0,r)) (⟨aT _,rfl,hdr,hbit.1,hbit.2,by rw [bQ,sV,Cc,fB];omega,rfl,hob⟩) fun ⟨i,c,s⟩=>fun hk=>?_
 obtain ⟨hi1,hsl,hds,hcc0,hcc1,hvs,hdrop,hos⟩:=hk
 rcases aJ i r.length with hil | hil
 · have hsi:0≤(s[(i:Int).toNat]?.getD default).v∧(s[(i:Int).toNat]?.getD default).v<65536:=xQ hds rG
   refine aM 19 [1] ?_
   refine fP (α:=U32) T.sl87 ?_
   refine mZ 50 0 T.one166 ?_
   refine aN (Yf rfl rfl tU) ?_
   refine aN (lS rfl rfl rG) ?_
   refine aL 8 [] ?_
   refine aN (jA rfl rfl rG) ?_
   refine fP (α:=U32) T.sl87 ?_
   refine eT (z:=_) 50 T.size166 rfl rfl rfl rH rG rfl fun ho1=>?_
   refine aL 4 [] ?_
   refine aN (oO rfl rfl rG) ?_
   refine aY 9 [] ?_
   refine iD 50 (rV 166 (s.set i ⟨(c+2*(s[(i:Int).toNat]?.getD default).v) % 65536⟩) j) rfl Lk ?_
   refine dC 10 rfl (show _=Value.slice o (s.set i ⟨(c+2*(s[(i:Int).toNat]?.getD default).v) % 65536⟩).length d by rw [aG]) ?_
   refine cP ((i+1,(c+2*(s[(i:Int).toNat]?.getD default).v) / 65536,s.set i ⟨(c+2*(s[(i:Int).toNat]?.getD default).v) % 65536⟩)) ?_ ?_
   · refine ⟨by omega,by rw [aG];exact hsl,xY hds _ rG,by omega,by omega,Tn rG hdrop hvs,Kw hdrop _,?_⟩
     rw [aF] at ho1;exact ho1
   show r.length - (i+1)<r.length - i
   omega
 have hii:i=r.length:=rG
 subst hii
 rw [rQ rG,rQ (aH _)] at hvs
 refine cJ 15 [0] ?_
 refine pT (ι:=List U32×(Option Addr×Nat×List Value)) (fun (s1,(o1,d1,j1))=>([(10,.slice o1 s1.length d1),(0,.slice a la.length ca),(1,.slice b lb.length cb),(11,.int .i64 (↑e:Int)),(9,.slice (some (Addr.mk b1 0 none)) (List.length q) N),(5,.slice none 0 0),(4,.slice none 0 0)],[(50,o1.map (·.block),rV 166 s1 j1),(51,some b1,rV (α:=Go.Sl.U32) 166 (q) ([]))])) (fun (s1,(o1,d1,j1))=>Digs s1∧Top s1∧rJ s1=2*rJ r+c0∧s1.length≤r.length+1∧OwnA o1 d1 s1 j1) ?_ fun ⟨s1,(o1,d1,j1)⟩=>fun (hk:Digs s1∧Top s1∧rJ s1=2*rJ r+c0∧s1.length≤r.length+1∧OwnA o1 d1 s1 j1)=>?_
 · by_cases hcy:0<c
   · have hcE:c=1:=rG
     subst hcE
     rw [fL,←hsl] at hvs
     refine aM 10 [1] ?_
     refine fC (α:=U32) 52 [⟨1⟩] rfl T.sl87 T.el166 rfl rfl rfl rfl rfl fun b2=>?_
     refine jW (α:=U32) 50 T.sl87 T.el166 (fZ 52 rfl) fun a1 c1 junk1 ho1=>?_
     refine aY 2 [] ?_
     refine qX ((s++[⟨1⟩],(a1,c1,junk1))) ?_
     refine ⟨hds.append (oT rW),?_,by rw [wR,fL];exact hvs,by rw [aI,hsl];exact aH _,ho1⟩
     refine .inr ?_
     rw [aI,gM,Nat.add_sub_cancel,cH (aH _),jK]
     decide
   have hcE:c=0:=rG
   subst hcE
   rw [cC,dB] at hvs
   refine bG 8 [0] ?_
   refine qX ((s,(o,d,j))) ?_
   refine ⟨hds,?_,hvs,by omega,hos⟩
   by_cases hr0:r=[]
   · left
     rw [hr0] at hsl
     exact bW hsl
   refine Zf hds (fun e0=>hr0 (bW (by rw [←hsl,e0];rfl))) ?_
   have:=Nr hdr htr hr0
   have h0:=sQ hdr
   rw [hsl,hvs];omega
 clear hvs hos hds hsl hdrop hcc0 hcc1
 obtain ⟨hd1,ht1,hv1,hsl1,ho1⟩:=hk
 have heq:e / 16<q.length:=rG
 have hdz:=EA hdq heq hvq
 have hroom:=ED hdq heq hdz
 have hdgq:=xQ hdq heq
 refine aM 4 [] ?_
 refine nP 60 rfl T.fn127 rfl (fun Gx hGx hgx=>DM Gx _ _ _ _ s1 lb (mN hgx 50 rfl ho1) (hb.up hGx) hd1 db ht1 tb rG rG) fun v5 Gx5 G5 Ho5 hlx5 hp=>?_
 obtain ⟨rfl,rfl,rfl⟩:=hp
 by_cases hge:rJ lb≤rJ s1
 · have hcmp:0≤sB (rJ s1) (rJ lb):=by
    rcases qF hge with h | h
    · rw [wQ h];decide
    rw [zZ h.symm];decide
   have hll:=wB hd1 db tb hge
   refine aL 8 [1] ?_
   refine nP 50 rfl T.fn128 rfl (fun Gx hGx hgx=>LZ Gx _ _ _ _ s1 lb (mN hgx 50 rfl ho1) (hb.up hGx) hd1 db rG hll hge) fun v7 Gx7 G7 Ho7 hlx7 hp=>?_
   obtain ⟨mo,mc,mr,mj,rfl,hmo,rfl,rfl,hmd,hmv,hml⟩:=hp
   have hmc:=hmo.le
   skip
   refine nP 70 rfl T.fn106 rfl (fun Gx hGx hgx=>vI Gx _ _ _ mr (mN hgx 50 rfl hmo) rG hmc) fun v8 Gx8 G8 Ho8 hlx8 hp=>?_
   obtain ⟨tn,rfl,htm,rfl,rfl⟩:=hp
   refine aN (rC T.fld93_1 rfl rfl) ?_
   refine bR 3 [] ?_
   refine dT [51,50] [(50,13),(51,13)] T.mixed [[0],[1]] ?_
   refine gR 2 [] rfl (mY rfl rfl rG) ?_
   refine eD [[3],[4]] ?_
   refine gR 5 [] rfl (mY rfl rfl rG) ?_
   refine kB (α:=U32) 6 T.sl87 ?_
   refine lV 7 51 0 T.one166 ?_
   refine eD [[8]] ?_
   refine gR 9 [] rfl (jA rfl rfl rG) ?_
   refine gR 10 [] rfl (Qy.shl rfl rfl rG) ?_
   refine gR 11 [] rfl (Dp rfl rfl) ?_
   refine kB (α:=U32) 12 T.sl87 ?_
   refine fE 13 ?_
   refine eT (z:=_) 51 T.size166 rfl rfl rfl rH rG rfl fun ho2=>?_
   refine fO ?_
   refine iG 7 [] ?_
   refine iD 51 (rV 166 (q.set (e / 16) ⟨dg q (e / 16)+p2 (e % 16)⟩) []) rfl ?_ ?_
   · show rV 166 (q.set ((e:Int) / 16).toNat ⟨bits BinOp.or IntKind.u32 (q[((e:Int) / 16).toNat]?.getD default).v (IntKind.u32.wrap (1*2 ^ min ((e:Int) % 16).toNat IntKind.u32.bits))⟩) []=_
     rw [MF hdgq hdz,show ((e:Int) / 16).toNat=e / 16 by omega]
   refine iD 50 (rV 166 (mr.take tn) (rX (mr.drop tn)++mj)) rfl (DW 166 mr mj tn) ?_
   refine dC 10 rfl (show _=Value.slice mo (mr.take tn).length mc by rw [Kq hmo,htm.len];rfl) ?_
   refine dC 9 rfl (show _=Value.slice (some ⟨b1,0,none⟩) (q.set (e / 16) ⟨dg q (e / 16)+p2 (e % 16)⟩).length N by rw [aG]) ?_
   refine cP ((e,2*Q+1,q.set (e / 16) ⟨dg q (e / 16)+p2 (e % 16)⟩,mr.take tn,(mo,mc,rX (mr.drop tn)++mj))) ?_ ?_
   · have hvm:=htm.val
     have hlt:rJ (mr.take tn)<rJ lb:=by rw [hvm,hmv];omega
     refine ⟨by omega,by rw [aG];exact hqN,xY hdq _ hroom,hmd.take _,htm.top,EC heq hvq,?_,hlt,wB db (hmd.take _) htm.top (bK hlt),DX hmo tn⟩
     rw [hhb,hva,hvm,hmv,hv1,iX,fB,bI,←bM];omega
   show e<e+1
   omega
 have hcmp:¬0≤sB (rJ s1) (rJ lb):=by rw [wA rG];decide
 have hll:s1.length≤lb.length:=wB db hd1 ht1 rG
 refine aY 12 [0] ?_
 refine cP ((e,2*Q,q,s1,(o1,d1,j1))) ?_ ?_
 · refine ⟨by omega,hqN,hdq,hd1,ht1,?_,?_,by omega,hll,ho1⟩
   · rw [hvq,yR,dK (p2 e) 2 Q,bM]
   rw [hhb,hva,bI,←bM,hv1];omega
 show e<e+1
 omega
end
end Go.Proofs.YtngphgeghfdjbaaGreatDoor
