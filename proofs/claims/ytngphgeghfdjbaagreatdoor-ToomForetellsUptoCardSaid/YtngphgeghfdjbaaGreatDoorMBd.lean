/- sN of the proof (part 4): what the rows' text needs of the texts that lead to it. -/
import Derived.Test.YtngphgeghfdjbaaGreatDoorMBc
set_option linter.unusedVariables false
set_option linter.unusedSimpArgs false
set_option linter.unusedSectionVars false
set_option maxHeartbeats 4000000
noncomputable section
set_option maxRecDepth 100000
namespace Go.Proofs.YtngphgeghfdjbaaGreatDoor
open Go Go.Sl
theorem Zd {n:Int} (h:-9223372036854775808≤n∧n<0):IntKind.u64.wrap (0 - IntKind.u64.wrap n)=-n:=by
 rw [lV,lV];omega
theorem EG (u:Int):qZ [(⟨u % 4294967296⟩:U32),⟨u / 4294967296⟩]=u:=by
 rw [sK,sK,rW]
 show u % 4294967296+4294967296*(u / 4294967296+4294967296*0)=u
 omega
theorem Ze {u:Int} (h:0≤u∧u<18446744073709551616):Lims [(⟨u % 4294967296⟩:U32),⟨u / 4294967296⟩]:=by
 intro d hd
 simp only [cH,List.mem_nil_iff,or_false] at hd
 rcases hd with rfl | rfl
 · exact yZ u
 show 0≤u / 4294967296∧u / 4294967296<4294967296
 omega
theorem Big.lt {G:Imm} {x:IV} {z:Int} (h:Big G x z):(z.natAbs:Int)<pb x.n:=by
 obtain ⟨l,h1,_,_,h4⟩:=h
 rw [←h4.abs,←h1];exact tC h4.digs
section
attribute [local irreducible] qZ pb sG rM
theorem CN (G:Imm) (n:Int) (hn:-9223372036854775808≤n∧n≤9223372036854775807) :
 Does Tryz.prog 43 [.int .i64 n] G [] (fun v G' Ho=>∃ r:IV,v=.agg (Cells.enc r).toArray∧Big G' r n∧Ho=[]):=by
 refine D0 Tryz.func43 Tryz.ntmps43 fun w=>?_
 refine aM 2 [] ?_
 refine aW 0 rfl T.zero89 fun b1=>?_
 refine aL 5 [] ?_
 refine aP (jY rfl T.u165 rfl) ?_
 refine bP 3 [] ?_
 refine Aa (ι:=Int) (fun u=>([(0,.int .i64 n),(2,.pointer (some ⟨b1,0,none⟩)),(3,.int .u64 u)],[(0,some b1,.cells #[.bool false,.slice none 0 0] 89)])) (fun u=>0≤u∧u<18446744073709551616∧n=if decide (n<0)=true then -u else u) ?_ fun u=>fun (hk:0≤u∧u<18446744073709551616∧n=if decide (n<0)=true then -u else u)=>?_
 · by_cases hneg:n<0
   · refine aM 9 [1] ?_
     refine aP (mA rfl) ?_
     refine bA 2 [] ?_
     refine cS 3 rfl (show _=Value.int .u64 (-n) by rw [Zd ⟨hn.1,hneg⟩]) ?_
     refine Ar.mt (-n) ?_
     exact ⟨by omega,by omega,by rw [aT (by simpa using hneg)];omega⟩
   refine bQ 8 [0] ?_
   refine cS 3 rfl (show _=Value.int .u64 n by rw [gS _ qX]) ?_
   refine Ar.mt (n) ?_
   exact ⟨by omega,by omega,by rw [aF (by simpa using hneg)]⟩
 obtain ⟨hu0,hu1,hun⟩:=hk
 refine aM 5 [] ?_
 refine aP (fL rfl T.u166 rfl) ?_
 refine aC 1 [] ?_
 refine aP (dV rfl rfl qX) ?_
 refine aP (iF rfl T.u166 rfl qX) ?_
 refine iC (α:=U32) 1 [⟨u % 4294967296⟩,⟨u / 4294967296⟩] rfl T.sl87 T.el166 rfl rfl rfl rfl rfl fun b2=>?_
 have hd:=Ze ⟨hu0,hu1⟩
 refine fT 1 rfl (iG (xs:=[(⟨u % 4294967296⟩:U32),⟨u / 4294967296⟩]) (by simp [maxLen])) fun G9 hle9 hA9=>?_
 refine cX 2 rfl (OR _ _ _ _ _ qY qY Ms Ms) fun v1 G1 Ho1 hle1 hp=>?_
 obtain ⟨r1,rfl,hr1,rfl⟩:=hp
 replace hA9:=hA9.up hle1
 refine bA 4 [0] ?_
 refine eH (.inr rfl) (Ho:=Hp.only _ []) rfl (.agg 0 rfl rfl T.agg89) (bN _ _) ?_
 exact ⟨_,rfl,Big.out hr1 (by rw [EG];exact hun.symm),rfl⟩
theorem OT (G:Imm) (x y:IV) (zx zy:Int) (hx:Big G x zx) (hy:Big G y zy) (h1:x.n≤536870912) (h2:y.n≤536870912) :
 Does Tryz.prog 42 [.agg (Cells.enc x).toArray,.agg (Cells.enc y).toArray] G [] (fun v G' Ho=>∃ r:IV,v=.agg (Cells.enc r).toArray∧Big G' r (zx+zy)∧Ho=[]):=by
 obtain ⟨n1,a,k1,ca⟩:=x
 obtain ⟨n2,b,k2,cb⟩:=y
 obtain ⟨la,hl,hlc,hA,hI⟩:=hx
 obtain ⟨lb,hl',hlc',hA',hI'⟩:=hy
 simp only at hl hlc hA hI hl' hlc' hA' hI' h1 h2
 subst hl hl'
 have da:=hI.digs
 have db:=hI'.digs
 have ta:=hI.top
 have tb:=hI'.top
 have len_le:∀ {l m:List U32},Lims l→Lims m→Top m→qZ m≤qZ l→m.length≤l.length:=fun {l m} hl hm tm h=>by
  rcases aR l.length m.length with h1 | h1
  · have:=vH hl hm tm h1;omega
  exact h1
 show Does Tryz.prog 42 [.agg #[.bool n1,.slice a la.length ca],.agg #[.bool n2,.slice b lb.length cb]] G [] _
 refine D0 Tryz.func42 Tryz.ntmps42 fun w=>?_
 by_cases hs:n1=n2
 · refine aM 2 [] ?_
   refine dY 0 fun b1=>?_
   refine dY 1 fun b2=>?_
   refine aW 2 rfl T.zero89 fun b3=>?_
   refine aL 9 [0,1] ?_
   refine aP (Dp T.u4 rfl rfl) ?_
   refine bP 4 [1] ?_
   refine eZ [0,1,2] [(2,8)] T.mixed [[0],[1,0],[2],[3,0],[4],[5,1]] ?_
   refine gC 6 ?_
   refine cX 3 rfl (c97 _ _ _ _ _ _ _ qY qY qY qY qX qX) fun v1 G1 Ho1 hle1 hp=>?_
   obtain ⟨⟨ra1,rm1,rfl,hra1,hrl1,hrt1,hrv1,hrn1⟩,rfl⟩:=hp
   replace hA:=hA.up hle1
   replace hA':=hA'.up hle1
   refine cT 7 ?_
   refine bS rfl (Dw _ _ _ _ _ qX) ?_
   refine cT 8 ?_
   refine aC 1 [2] ?_
   refine jC ?_
   refine iN 3 [] ?_
   refine eH (.inr rfl) (Ho:=Hp.only _ []) rfl (.agg 2 rfl rfl T.agg89) (bN _ _) ?_
   all_goals
    refine ⟨⟨n1 && decide (0<rm1.length),ra1,rm1.length,rm1.length⟩,rfl,lG n1 hra1 hrl1 hrt1 (aE _) ?_,rfl⟩
    rw [hrv1,hI.val,hI'.val]
    revert hs
    cases n1 <;> cases n2 <;> simp <;> omega
 by_cases hle:qZ lb≤qZ la
 · have hcmp:¬sG (qZ la) (qZ lb)<0:=fun h=>by have:=Nw h;omega
   have hll:=len_le da db tb hle
   refine aM 2 [] ?_
   refine dY 0 fun b1=>?_
   refine dY 1 fun b2=>?_
   refine aW 2 rfl T.zero89 fun b3=>?_
   refine aL 9 [0,1] ?_
   refine aP (Dp T.u4 rfl rfl) ?_
   refine aL 12 [0,0,1] ?_
   refine bS rfl (GH _ _ _ _ _ _ _ qY qY qY qY qX qX qX qX) ?_
   refine aL 12 [0,0,1] ?_
   refine cX 3 rfl (c99 _ _ _ _ _ _ _ qY qY qY qY qX qX qX qX qX) fun v1 G1 Ho1 hle1 hp=>?_
   obtain ⟨rq1,rfl,⟨ra1,rm1,rfl,hra1,hrl1,hrt1,hrv1,hrn1⟩,rfl⟩:=hp
   replace hA:=hA.up hle1
   replace hA':=hA'.up hle1
   refine aL 12 [0] ?_
   refine bS rfl (Dw _ _ _ _ _ qX) ?_
   refine bA 4 [2] ?_
   refine eH (.inr rfl) (Ho:=Hp.only _ []) rfl (.agg 2 rfl rfl T.agg89) (bN _ _) ?_
   refine ⟨⟨n1 && decide (0<rm1.length),ra1,rm1.length,rm1.length⟩,rfl,lG n1 hra1 hrl1 hrt1 (aE _) ?_,rfl⟩
   rw [hrv1,hI.val,hI'.val]
   revert hs
   cases n1 <;> cases n2 <;> simp <;> omega
 have hcmp:sG (qZ la) (qZ lb)=-1:=Aj qX
 have hle':qZ la≤qZ lb:=qX
 have hll:=len_le db da ta hle'
 refine aM 2 [] ?_
 refine dY 0 fun b1=>?_
 refine dY 1 fun b2=>?_
 refine aW 2 rfl T.zero89 fun b3=>?_
 refine aL 9 [0,1] ?_
 refine aP (Dp T.u4 rfl rfl) ?_
 refine aL 12 [0,0,1] ?_
 refine bS rfl (GH _ _ _ _ _ _ _ qY qY qY qY qX qX qX qX) ?_
 refine aL 17 [1,1,0,0,1,0,1] ?_
 refine cX 3 rfl (c99 _ _ _ _ _ _ _ qY qY qY qY qX qX qX qX qX) fun v1 G1 Ho1 hle1 hp=>?_
 obtain ⟨rq1,rfl,⟨ra1,rm1,rfl,hra1,hrl1,hrt1,hrv1,hrn1⟩,rfl⟩:=hp
 replace hA:=hA.up hle1
 replace hA':=hA'.up hle1
 refine aL 12 [0] ?_
 refine bS rfl (Dw _ _ _ _ _ qX) ?_
 refine bA 4 [2] ?_
 refine eH (.inr rfl) (Ho:=Hp.only _ []) rfl (.agg 2 rfl rfl T.agg89) (bN _ _) ?_
 refine ⟨⟨n2 && decide (0<rm1.length),ra1,rm1.length,rm1.length⟩,rfl,lG n2 hra1 hrl1 hrt1 (aE _) ?_,rfl⟩
 rw [hrv1,hI.val,hI'.val]
 revert hs
 cases n1 <;> cases n2 <;> simp <;> omega
theorem KB (G:Imm) (x y:IV) (zx zy:Int) (hx:Big G x zx) (hy:Big G y zy) (h1:x.n≤536870912) (h2:y.n≤536870912) :
 Does Tryz.prog 159 [.agg (Cells.enc x).toArray,.agg (Cells.enc y).toArray] G [] (fun v G' Ho=>∃ r:IV,v=.agg (Cells.enc r).toArray∧Big G' r (zx - zy)∧Ho=[]):=by
 refine D0 Tryz.func159 Tryz.ntmps159 fun w=>?_
 refine aM 2 [] ?_
 refine dY 0 fun b1=>?_
 refine dY 1 fun b2=>?_
 refine aW 2 rfl T.zero89 fun b3=>?_
 refine bP 3 [] ?_
 refine eZ [0,1,2] [(2,4)] T.mixed [[0,0],[1,1]] ?_
 refine gC 2 ?_
 refine cX 3 rfl (c55 _ _ _ hy qX) fun v1 G1 Ho1 hle1 hp=>?_
 obtain ⟨nr1,rfl,hnr1,rfl,rfl⟩:=hp
 refine cT 3 ?_
 have hn1:nr1.n≤y.n:=gM hnr1 (by rw [Int.natAbs_neg];exact Big.lt hy)
 refine cX 20 rfl (OT _ x nr1 zx (-zy) hx hnr1 h1 qX) fun v2 G2 Ho2 hle2 hp=>?_
 obtain ⟨r2,rfl,hr2,rfl⟩:=hp
 refine cT 4 ?_
 refine aC 1 [2] ?_
 refine jC ?_
 refine iN 2 [] ?_
 refine eH (.inr rfl) (Ho:=Hp.only _ []) rfl (.agg 2 rfl rfl T.agg89) (bN _ _) ?_
 exact ⟨r2,rfl,Big.out hr2 (Int.sub_eq_add_neg).symm,rfl⟩
theorem KC (d s:Nat):pb d*((2 ^ s:Nat):Int)=((2 ^ (32*d+s):Nat):Int):=by
 unfold pb
 rw [←cF]
 congr 1
 rw [show (4294967296:Nat)=2 ^ 32 by decide,←Nat.pow_mul,←nO]
theorem c56 (G:Imm) (x:IV) (zx:Int) (d s:Nat) (hx:Big G x zx) (h1:x.n≤536870912) (hs:s<32) (hd:d≤1000) :
 Does Tryz.prog 56 [.agg (Cells.enc x).toArray,.int .i64 ((32*d+s:Nat):Int)] G [] (fun v G' Ho=>∃ r:IV,v=.tuple #[.agg (Cells.enc r).toArray,.int .i64 0]∧Big G' r (zx*((2 ^ (32*d+s):Nat):Int))∧Ho=[]):=by
 obtain ⟨n1,a,k1,ca⟩:=x
 obtain ⟨la,hl,hlc,hA,hI⟩:=hx
 simp only at hl hlc hA hI h1
 subst hl
 have da:=hI.digs
 show Does Tryz.prog 56 [.agg #[.bool n1,.slice a la.length ca],.int .i64 ((32*d+s:Nat):Int)] G [] _
 refine D0 Tryz.func56 Tryz.ntmps56 fun w=>?_
 refine aM 2 [] ?_
 refine dY 0 fun b1=>?_
 refine aW 1 rfl T.zero89 fun b2=>?_
 refine aL 8 [0] ?_
 refine cX 2 rfl (JZ _ _ _ _ d s qY qY qX hs hd) fun v1 G1 Ho1 hle1 hp=>?_
 obtain ⟨rq1,rfl,⟨ra1,rm1,rfl,hra1,hrl1,hrt1,hrv1,hrn1⟩,rfl⟩:=hp
 replace hA:=hA.up hle1
 refine aL 22 [0,0] ?_
 refine bS rfl (Dw _ _ _ _ _ qX) ?_
 refine bA 5 [1] ?_
 refine oO (.inr rfl) (Ho:=Hp.only _ []) rfl (.agg 1 rfl rfl T.agg89) (.tmp rfl) (bN _ _) ?_
 refine ⟨⟨n1 && decide (0<rm1.length),ra1,rm1.length,rm1.length⟩,rfl,lG n1 hra1 hrl1 hrt1 (aE _) ?_,rfl⟩
 rw [hrv1,hI.val,KC]
 cases n1
 · rw [aF (by decide),aF (by decide),cQ]
 rw [aT rfl,aT rfl,pC,cQ]
end
end Go.Proofs.YtngphgeghfdjbaaGreatDoor
namespace Go.Sl
open Go
section
variable {B:Bs} {e:Env} {D:List Deferred} {H:Hp} {G:Imm}
theorem retagH {a:Act} {w:World} (hh:Hold B ⟨e,D,H,G⟩ a w) (t t':Nat) {k:Option Nat} {o:Obj} (ht:H.get t=some (k,o)) (hn:t≠t') (hk:H.get t'=none∨True):Hold B ⟨e,D,(t',k,o) :: (t,none,o) :: H,G⟩ a w:=by
 have key:∀ i b o',Hp.get ((t',k,o) :: (t,none,o) :: H) i=some (some b,o')→(i=t'∧H.get t=some (some b,o'))∨(i≠t'∧i≠t∧H.get i=some (some b,o')):=fun i b o' hx=>by
  rw [bF] at hx
  split at hx
  · rename_i hi;left;refine ⟨hi.symm,?_⟩;rw [ht];exact hx
  rename_i hi
  rw [bF] at hx
  split at hx
  · simp at hx
  rename_i hi2;exact .inr ⟨fun h=>hi h.symm,fun h=>hi2 h.symm,hx⟩
 refine ⟨hh.size,hh.defers,hh.env,⟨?_,?_,hh.mem.imm,?_⟩,hh.upd,?_,hh.le,hh.new⟩
 · intro i b o' hx
   rcases key i b o' hx with ⟨_,h⟩ | ⟨_,_,h⟩
   · exact hh.mem.own _ b o' h
   exact hh.mem.own _ b o' h
 · intro i i' b o1 o2 hx hy
   rcases key i b o1 hx with ⟨h1,h2⟩ | ⟨h1,h1',h2⟩ <;> rcases key i' b o2 hy with ⟨h3,h4⟩ | ⟨h3,h3',h4⟩
   · rw [h1,h3]
   · exact absurd (hh.mem.one _ _ b _ _ h2 h4).symm h3'
   · exact absurd (hh.mem.one _ _ b _ _ h2 h4) h1'
   exact hh.mem.one _ _ b _ _ h2 h4
 · intro i b o' hx
   rcases key i b o' hx with ⟨_,h⟩ | ⟨_,_,h⟩
   · exact hh.mem.off _ b o' h
   exact hh.mem.off _ b o' h
 intro i b o' hx
 rcases key i b o' hx with ⟨_,h⟩ | ⟨_,_,h⟩
 · exact hh.mine _ b o' h
 exact hh.mine _ b o' h
theorem Ar.retag {x:Exit} {Q:Exit→Act→World→Prop} (t t':Nat) {k:Option Nat} {o:Obj} (ht:H.get t=some (k,o)) (hn:Nat.beq t t'=false) (h:Ar Q x B ⟨e,D,(t',k,o) :: (t,none,o) :: H,G⟩):Ar Q x B ⟨e,D,H,G⟩:=
 fun a w hh=>h a w (retagH hh t t' ht (fun e=>by subst e;simp at hn) (.inr trivial))
end
end Go.Sl
namespace Go.Proofs.YtngphgeghfdjbaaGreatDoor
open Go Go.Sl
theorem Zf (z:Int):-1≤Ny z∧Ny z≤1:=by unfold Ny;split;exact ⟨by omega,by omega⟩;split <;> exact ⟨by omega,by omega⟩
theorem EH (z:Int):-9223372036854775808≤Ny z∧Ny z≤9223372036854775807:=by have:=Zf z;omega
theorem EI (z:Int):((Ny z).natAbs:Int)<pb 1:=by have:=Zf z;have:pb 1=4294967296:=rI;omega
theorem EJ (z:Int):Ny z*z=z.natAbs:=by
 unfold Ny
 split
 · omega
 split <;> omega
theorem Sq {x y q r:Int} (hy:y≠0) (h:x=q*y+r) (h0:0≤r) (h1:r<y.natAbs):q=x / y∧r=x % y:=by
 rcases Int.lt_or_gt_of_ne hy with hn | hp
 · have:=(Int.ediv_emod_unique' (a:=x) (b:=y) (r:=r) (q:=q) hn).2 ⟨by rw [cQ y q];omega,h0,by omega⟩
   exact ⟨this.1.symm,this.2.symm⟩
 have:=(pE (a:=x) (b:=y) (r:=r) (q:=q) hp).2 ⟨by rw [cQ y q];omega,h0,by omega⟩
 exact ⟨this.1.symm,this.2.symm⟩
theorem Zg {n1 n2:Bool} {x y la lb lq lr:Int} (hx:x=if n1=true then -la else la) (hy:y=if n2=true then -lb else lb) (hv:la=lq*lb+lr) :
 x=(if decide (n1≠n2)=true then -lq else lq)*y+(if n1=true then -lr else lr):=by
 subst hx hy hv
 cases n1 <;> cases n2 <;> simp [pC,Int.mul_neg,Int.neg_add]
theorem EK {x y q r:Int} (h:x=q*y+r):x=(q - Ny y)*y+(r+y.natAbs):=by
 have:=EJ y
 rw [pB,this];omega
theorem EL {n1:Bool} {m:List U32} {q x y:Int} (hx:x=q*y+(if n1=true then -qZ m else qZ m)) (hy:y≠0) (hl:qZ m<y.natAbs) (h:(n1 && decide (0<m.length))=true) (ht:Top m) (hd:Lims m) :
 q - Ny y=x / y∧(if n1=true then -qZ m else qZ m)+(y.natAbs:Int)=x % y:=by
 rw [aA,aS] at h
 have hp:=Fi hd ht (fun e=>by have:=h.2;rw [e] at this;simp at this)
 have e:=h.1
 subst e
 rw [aT rfl] at hx ⊢
 exact Sq hy (EK hx) qX qX
theorem Zh {n1:Bool} {m:List U32} {q x y:Int} (hx:x=q*y+(if n1=true then -qZ m else qZ m)) (hy:y≠0) (hl:qZ m<y.natAbs) (h:(n1 && decide (0<m.length))=false) (hd:Lims m) :
 q=x / y∧(if n1=true then -qZ m else qZ m)=x % y:=by
 have hn:=rR hd
 refine Sq hy hx ?_ ?_
 · cases n1 with
   | false=>rw [aF (by decide)];exact hn
   | true =>
     have h0:m=[]:=by
      rw [nY,dE] at h
      exact cA qX
     rw [aT rfl,h0,rW]
     omega
 split <;> omega
section
attribute [local irreducible] qZ pb sG rM
theorem OU (G:Imm) (x y:IV) (zx zy:Int) (hx:Big G x zx) (hy:Big G y zy) (h1:x.n≤268435456) (h2:y.n≤268435456) (hy0:zy≠0) :
 Does Tryz.prog 109 [.agg (Cells.enc x).toArray,.agg (Cells.enc y).toArray] G [] (fun v G' Ho=>∃ q r:IV,v=.tuple #[.agg (Cells.enc q).toArray,.agg (Cells.enc r).toArray,.int .i64 0]∧Big G' q (zx / zy)∧Big G' r (zx % zy)∧Ho=[]):=by
 obtain ⟨n1,a,k1,ca⟩:=x
 obtain ⟨n2,b,k2,cb⟩:=y
 obtain ⟨la,hl,hlc,hA,hI⟩:=hx
 obtain ⟨lb,hl',hlc',hA',hI'⟩:=hy
 simp only at hl hlc hA hI hl' hlc' hA' hI' h1 h2
 subst hl hl'
 have da:=hI.digs
 have db:=hI'.digs
 have ta:=hI.top
 have tb:=hI'.top
 have h1':la.length≤536870912:=qX
 have h2':lb.length≤536870912:=qX
 have va:=hI.abs
 have vb:=hI'.abs
 have hlt:=tC db
 have hB:0<qZ lb:=qX
 show Does Tryz.prog 109 [.agg #[.bool n1,.slice a la.length ca],.agg #[.bool n2,.slice b lb.length cb]] G [] _
 refine D0 Tryz.func109 Tryz.ntmps109 fun w=>?_
 refine aM 2 [] ?_
 refine dY 0 fun b1=>?_
 refine dY 1 fun b2=>?_
 refine aW 2 rfl T.zero89 fun b3=>?_
 refine aW 3 rfl T.zero89 fun b4=>?_
 refine aL 9 [0,1] ?_
 refine cX 4 rfl (OQ _ _ _ _ _ _ _ qY qY da ta db h1' h2' hlc hlc' hB) fun v1 G1 Ho1 hle1 hp=>?_
 obtain ⟨_,_,rfl,⟨qa1,qm1,rfl,hqa1,hql1,hqt1,hqv1,hqn1⟩,⟨ra1,rm1,rfl,hra1,hrl1,hrt1,hrv1,hrn1⟩,rfl⟩:=hp
 replace hA:=hA.up hle1
 replace hA':=hA'.up hle1
 refine bP 19 [0] ?_
 refine Aa (ι:=Nat×Nat) (fun (p,q)=>([(10,.pointer (some ⟨p,0,none⟩)),(11,.pointer (some ⟨q,0,none⟩)),(6,.int .i64 0),(5,.pointer (some (Addr.mk b4 0 none))),(4,.pointer (some (Addr.mk b3 0 none))),(3,.pointer (some ⟨b2,0,none⟩))],[(60,some p,.cells #[.bool (decide (n1≠n2) && decide (0<qm1.length)),.slice qa1 qm1.length qm1.length] 89),(61,some q,.cells #[.bool (n1 && decide (0<rm1.length)),.slice ra1 rm1.length rm1.length] 89),(3,some b4,.cells #[.bool Bool.false,.slice none 0 0] 89),(2,some b3,.cells #[.bool Bool.false,.slice none 0 0] 89),(1,some b2,.cells #[.bool n2,.slice b (List.length lb) cb] 89),(0,some b1,.cells #[.bool n1,.slice a (List.length la) ca] 89)])) (fun (p,q)=>True) ?_ fun ⟨p,q⟩=>fun (hk:True)=>?_
 · refine eZ [0,1,2,3] [] T.mixed [[0],[1,0],[2],[3,1]] ?_
   refine gQ 4 [] rfl (Kv T.u4 rfl rfl) ?_
   refine fE [[5],[7],[8,0],[9]] ?_
   refine Gm.o3 6 11 12 ?_ ?_ ?_
   refine bS rfl (Dw _ _ _ _ _ qX) ?_
   refine eU ?_
   refine Gm.o3 10 11 12 ?_ ?_ ?_
   refine bS rfl (Dw _ _ _ _ _ qX) ?_
   refine eU ?_
   refine Gm.o2 11 12 ?_ ?_
   refine aW 4 rfl T.zero89 fun b5=>?_
   refine cT 12 ?_
   refine aW 5 rfl T.zero89 fun b6=>?_
   refine cT 13 ?_
   refine aC 1 [4] ?_
   refine cT 14 ?_
   refine aC 1 [5] ?_
   refine jC ?_
   rotate_left
   refine aW 4 rfl T.zero89 fun b5=>?_
   refine cT 11 ?_
   refine aW 5 rfl T.zero89 fun b6=>?_
   refine cT 13 ?_
   refine aC 1 [5] ?_
   refine cT 14 ?_
   refine aC 1 [4] ?_
   refine jC ?_
   rotate_left
   refine aW 4 rfl T.zero89 fun b5=>?_
   refine eU ?_
   refine Gm.o2 10 12 ?_ ?_
   refine bS rfl (Dw _ _ _ _ _ qX) ?_
   refine cT 12 ?_
   refine aW 5 rfl T.zero89 fun b6=>?_
   refine cT 13 ?_
   refine aC 1 [4] ?_
   refine cT 14 ?_
   refine aC 1 [5] ?_
   refine jC ?_
   rotate_left
   refine aW 5 rfl T.zero89 fun b6=>?_
   refine cT 10 ?_
   refine bS rfl (Dw _ _ _ _ _ qX) ?_
   refine cT 13 ?_
   refine aC 1 [4] ?_
   refine cT 14 ?_
   refine aC 1 [5] ?_
   refine jC ?_
   rotate_left
   refine aW 4 rfl T.zero89 fun b5=>?_
   refine eU ?_
   refine Gm.o2 10 11 ?_ ?_
   refine bS rfl (Dw _ _ _ _ _ qX) ?_
   refine cT 11 ?_
   refine aW 5 rfl T.zero89 fun b6=>?_
   refine cT 13 ?_
   refine aC 1 [5] ?_
   refine cT 14 ?_
   refine aC 1 [4] ?_
   refine jC ?_
   rotate_left
   refine aW 5 rfl T.zero89 fun b6=>?_
   refine cT 10 ?_
   refine bS rfl (Dw _ _ _ _ _ qX) ?_
   refine cT 13 ?_
   refine aC 1 [5] ?_
   refine cT 14 ?_
   refine aC 1 [4] ?_
   refine jC ?_
   rotate_left
   refine aW 4 rfl T.zero89 fun b5=>?_
   refine eU ?_
   refine Gm.o2 6 12 ?_ ?_
   refine bS rfl (Dw _ _ _ _ _ qX) ?_
   refine eU ?_
   refine Gm.o2 10 12 ?_ ?_
   refine bS rfl (Dw _ _ _ _ _ qX) ?_
   refine cT 12 ?_
   refine aW 5 rfl T.zero89 fun b6=>?_
   refine cT 13 ?_
   refine aC 1 [4] ?_
   refine cT 14 ?_
   refine aC 1 [5] ?_
   refine jC ?_
   rotate_left
   refine aW 5 rfl T.zero89 fun b6=>?_
   refine cT 10 ?_
   refine bS rfl (Dw _ _ _ _ _ qX) ?_
   refine cT 13 ?_
   refine aC 1 [4] ?_
   refine cT 14 ?_
   refine aC 1 [5] ?_
   refine jC ?_
   rotate_left
   refine aW 5 rfl T.zero89 fun b6=>?_
   refine cT 6 ?_
   refine bS rfl (Dw _ _ _ _ _ qX) ?_
   refine cT 10 ?_
   refine bS rfl (Dw _ _ _ _ _ qX) ?_
   refine cT 13 ?_
   refine aC 1 [4] ?_
   refine cT 14 ?_
   refine aC 1 [5] ?_
   refine jC ?_
   rotate_left
   refine aW 4 rfl T.zero89 fun b5=>?_
   refine eU ?_
   refine Gm.o2 6 11 ?_ ?_
   refine bS rfl (Dw _ _ _ _ _ qX) ?_
   refine eU ?_
   refine Gm.o2 10 11 ?_ ?_
   refine bS rfl (Dw _ _ _ _ _ qX) ?_
   refine cT 11 ?_
   refine aW 5 rfl T.zero89 fun b6=>?_
   refine cT 13 ?_
   refine aC 1 [5] ?_
   refine cT 14 ?_
   refine aC 1 [4] ?_
   refine jC ?_
   rotate_left
   refine aW 5 rfl T.zero89 fun b6=>?_
   refine cT 10 ?_
   refine bS rfl (Dw _ _ _ _ _ qX) ?_
   refine cT 13 ?_
   refine aC 1 [5] ?_
   refine cT 14 ?_
   refine aC 1 [4] ?_
   refine jC ?_
   rotate_left
   refine aW 5 rfl T.zero89 fun b6=>?_
   refine cT 6 ?_
   refine bS rfl (Dw _ _ _ _ _ qX) ?_
   refine cT 10 ?_
   refine bS rfl (Dw _ _ _ _ _ qX) ?_
   refine cT 13 ?_
   refine aC 1 [5] ?_
   refine cT 14 ?_
   refine aC 1 [4] ?_
   refine jC ?_
   rotate_left
   all_goals first | (refine Ar.retag 4 60 rfl rfl (Ar.retag 5 61 rfl rfl (Ab (b5,b6) trivial rfl ?_ ?_)) <;> (repeat (first | exact trivial | refine ⟨rfl,?_⟩));done) | (refine Ar.retag 5 60 rfl rfl (Ar.retag 4 61 rfl rfl (Ab (b6,b5) trivial rfl ?_ ?_)) <;> (repeat (first | exact trivial | refine ⟨rfl,?_⟩));done)
 have hxy:=Zg hI.val hI'.val (show qZ la=qZ qm1*qZ lb+qZ rm1 by rw [hqv1,hrv1,cQ];exact (Int.mul_ediv_add_emod (qZ la) (qZ lb)).symm)
 have hrlt:qZ rm1<qZ lb:=by rw [hrv1];exact dM _ hB
 have hQ0:=lG (decide (n1≠n2)) hqa1 hql1 hqt1 (aE _) rfl
 have hy2:Big G1 ⟨n2,b,lb.length,cb⟩ zy:=⟨lb,rfl,hlc',hA',hI'⟩
 have hR0:=lG n1 hra1 hrl1 hrt1 (aE _) rfl
 refine cZ 7 [61] ?_
 refine Bo rfl (fun hc1=>?_) fun hc1=>?_
 refine cO ?_
 refine eZ [0,1,2,3,61,60] [(61,4)] T.mixed [[0,61],[1,1]] ?_
 refine gC 2 ?_
 refine cX 62 rfl (c58 _ ⟨n2,b,lb.length,cb⟩ zy hy2 (aK h2' rI)) fun v2 G2 Ho2 hle2 hp=>?_
 obtain ⟨nr2,rfl,hnr2,rfl,rfl⟩:=hp
 refine cT 3 ?_
 refine cX 62 rfl (OT _ ⟨(n1 && decide (0<rm1.length)),ra1,rm1.length,rm1.length⟩ nr2 _ _ hR0 hnr2 (aK hrn1 h2') (aK (gM hnr2 (m:=lb.length) qX) h2')) fun v3 G3 Ho3 hle3 hp=>?_
 obtain ⟨rs3,rfl,hrs3,rfl⟩:=hp
 replace hnr2:=hnr2.up hle3
 replace hqa1:=hqa1.up hle3
 replace hra1:=hra1.up hle3
 replace hA:=hA.up hle3
 replace hA':=hA'.up hle3
 replace hQ0:=hQ0.up hle3
 replace hy2:=hy2.up hle3
 replace hR0:=hR0.up hle3
 refine cT 4 ?_
 refine aC 1 [61] ?_
 refine jC ?_
 refine bW ?_
 refine eZ [0,1,2,3,60,61] [(60,5)] T.mixed [[0,60],[1,1]] ?_
 refine gC 2 ?_
 refine bS rfl (c48 _ _ _ _ _ zy hI' qX) ?_
 refine cT 3 ?_
 refine cX 62 rfl (CN _ _ (EH zy)) fun v4 G4 Ho4 hle4 hp=>?_
 obtain ⟨ro4,rfl,hro4,rfl⟩:=hp
 replace hrs3:=hrs3.up hle4
 replace hnr2:=hnr2.up hle4
 replace hqa1:=hqa1.up hle4
 replace hra1:=hra1.up hle4
 replace hA:=hA.up hle4
 replace hA':=hA'.up hle4
 replace hQ0:=hQ0.up hle4
 replace hy2:=hy2.up hle4
 replace hR0:=hR0.up hle4
 refine cT 4 ?_
 refine cX 62 rfl (KB _ ⟨(decide (n1≠n2) && decide (0<qm1.length)),qa1,qm1.length,qm1.length⟩ ro4 _ _ hQ0 hro4 (aK hqn1 h1') (aK (gM hro4 (m:=1) (EI zy)) rI)) fun v5 G5 Ho5 hle5 hp=>?_
 obtain ⟨rd5,rfl,hrd5,rfl⟩:=hp
 replace hro4:=hro4.up hle5
 replace hrs3:=hrs3.up hle5
 replace hnr2:=hnr2.up hle5
 replace hqa1:=hqa1.up hle5
 replace hra1:=hra1.up hle5
 replace hA:=hA.up hle5
 replace hA':=hA'.up hle5
 replace hQ0:=hQ0.up hle5
 replace hy2:=hy2.up hle5
 replace hR0:=hR0.up hle5
 refine cT 5 ?_
 refine aC 1 [60] ?_
 refine jC ?_
 refine oS 2 [] ?_
 refine eZ [0,1,2,3,61,60] [(3,3),(2,2)] T.mixed [[0,60],[1,61]] ?_
 refine gC 2 ?_
 refine aC 1 [2] ?_
 refine cT 3 ?_
 refine aC 1 [3] ?_
 refine eU ?_
 refine fE [[4]] ?_
 refine eI ?_
 refine iN 2 [] ?_
 refine zW (.inr rfl) (Ho:=Hp.only _ []) rfl (.agg 2 rfl rfl T.agg89) (.agg 3 rfl rfl T.agg89) (.tmp rfl) (bN _ _) ?_
 rotate_left
 refine cZ 3 [] ?_
 refine eZ [0,1,2,3,61,60] [(3,3),(2,2)] T.mixed [[0,60],[1,61]] ?_
 refine gC 2 ?_
 refine aC 1 [2] ?_
 refine cT 3 ?_
 refine aC 1 [3] ?_
 refine eU ?_
 refine fE [[4]] ?_
 refine eI ?_
 refine iN 2 [] ?_
 refine zW (.inr rfl) (Ho:=Hp.only _ []) rfl (.agg 2 rfl rfl T.agg89) (.agg 3 rfl rfl T.agg89) (.tmp rfl) (bN _ _) ?_
 rotate_left
 · have he:=EL hxy hy0 qX hc1 hrt1 hrl1
   refine ⟨rd5,rs3,rfl,?_,?_,rfl⟩
   · rw [←he.1];exact hrd5
   rw [←he.2];exact hrs3
 have he:=Zh hxy hy0 qX hc1 hrl1
 refine ⟨⟨(decide (n1≠n2) && decide (0<qm1.length)),qa1,qm1.length,qm1.length⟩,⟨(n1 && decide (0<rm1.length)),ra1,rm1.length,rm1.length⟩,rfl,?_,?_,rfl⟩
 · rw [←he.1];exact hQ0
 rw [←he.2];exact hR0
end
theorem OV (G:Imm) (op:Int):Does Tryz.prog 214 [.int .i64 op] G [] (fun v G' Ho=>v=.bool (decide (op=3∨op=4))∧G'=G∧Ho=[]):=by
 refine D0 Tryz.func214 Tryz.ntmps214 fun w=>?_
 refine aM 10 [] ?_
 apply dA 3 5 8 rfl
 intro hg1
 refine aC 5 [] ?_
 exact eL 3 0
 intro hg1
 refine aC 3 [] ?_
 exact eL 3 0
 refine bA 4 [] ?_
 refine cI ?_
 exact ⟨by simp,rfl,rfl⟩
def Al (op c:Int):Bool:=
 if op=5∨op=6 then decide (c≠0∧-512≤c∧c≤512) else if op=7∨op=8 then decide (1≤c∧c≤64) else decide (c=0)
theorem OW (G:Imm) (i:Sl.Instr):Does Tryz.prog 215 [.agg (Cells.enc i).toArray] G [] (fun v G' Ho=>v=.bool (decide (Al i.op i.c=true))∧G'=G∧Ho=[]):=by
 refine D0 Tryz.func215 Tryz.ntmps215 fun w=>?_
 refine aM 2 [] ?_
 refine dY 0 fun b1=>?_
 refine bP 18 [0] ?_
 refine eX (fun hc1=>?_) fun hc1=>?_
 refine aM 9 [1,0] ?_
 apply dT 4 11 15 rfl
 intro hg1
 refine aC 7 [0] ?_
 exact eL 4 0
 intro hg1
 refine aC 4 [] ?_
 exact eL 4 0
 refine aC 1 [] ?_
 apply dT 4 16 20 rfl
 intro hg1
 refine aC 7 [0] ?_
 exact eL 4 0
 intro hg1
 refine aC 4 [] ?_
 exact eL 4 0
 refine bA 6 [] ?_
 refine cI ?_
 rotate_left
 refine cZ 5 [] ?_
 refine eX (fun hc2=>?_) fun hc2=>?_
 refine aM 6 [0] ?_
 apply dT 4 11 15 rfl
 intro hg1
 refine aC 7 [0] ?_
 exact eL 4 0
 intro hg1
 refine aC 4 [] ?_
 exact eL 4 0
 refine aC 1 [] ?_
 apply dT 4 16 20 rfl
 intro hg1
 refine aC 7 [0] ?_
 exact eL 4 0
 intro hg1
 refine aC 4 [] ?_
 exact eL 4 0
 refine bA 6 [] ?_
 refine cI ?_
 rotate_left
 refine cZ 7 [] ?_
 refine eX (fun hc3=>?_) fun hc3=>?_
 refine aM 9 [1,0] ?_
 apply dT 4 27 31 rfl
 intro hg1
 refine aC 7 [0] ?_
 exact eL 4 0
 intro hg1
 refine aC 4 [] ?_
 exact eL 4 0
 refine bA 6 [] ?_
 refine cI ?_
 rotate_left
 refine cZ 5 [] ?_
 refine eX (fun hc4=>?_) fun hc4=>?_
 refine aM 6 [0] ?_
 apply dT 4 27 31 rfl
 intro hg1
 refine aC 7 [0] ?_
 exact eL 4 0
 intro hg1
 refine aC 4 [] ?_
 exact eL 4 0
 refine bA 6 [] ?_
 refine cI ?_
 rotate_left
 refine bQ 12 [0] ?_
 refine cI ?_
 rotate_left
 all_goals refine ⟨?_,rfl,rfl⟩
 all_goals simp [Al, *]
 all_goals first | (split <;> first | rfl | omega) | omega | (simp only [Bool.and_assoc];rfl) | (simp only [Bool.and_assoc]) | skip
def uW (i:Sl.Instr):List Int:=if i.op=3∨i.op=4 then [i.a,i.b] else if 1≤i.op∧i.op≤8 then [i.a] else []
theorem OX (G:Imm) (i:Sl.Instr):Does Tryz.prog 216 [.agg (Cells.enc i).toArray] G [] (fun v G' Ho=>∃ a c junk,v=.slice a (uW i).length c∧OwnA a c (uW i) junk∧Ho=[(1,a.map (·.block),rP 3 (uW i) junk)]∧G'=G):=by
 refine D0 Tryz.func216 Tryz.ntmps216 fun w=>?_
 refine aM 2 [] ?_
 refine dY 0 fun b1=>?_
 refine bP 18 [0] ?_
 refine eX (fun hc1=>?_) fun hc1=>?_
 refine aM 9 [1,0,0] ?_
 refine iC (α:=Int) 1 [(Go.Sl.Instr.a i),(Go.Sl.Instr.b i)] rfl T.sl24 T.el3 rfl rfl rfl rfl rfl fun b2=>?_
 refine bA 6 [] ?_
 rotate_left
 refine cZ 5 [] ?_
 refine eX (fun hc2=>?_) fun hc2=>?_
 refine aM 6 [0,0] ?_
 refine iC (α:=Int) 1 [(Go.Sl.Instr.a i),(Go.Sl.Instr.b i)] rfl T.sl24 T.el3 rfl rfl rfl rfl rfl fun b2=>?_
 refine bA 6 [] ?_
 rotate_left
 refine cZ 7 [] ?_
 refine eX (fun hc3=>?_) fun hc3=>?_
 refine aM 7 [1,0] ?_
 refine iC (α:=Int) 1 [(Go.Sl.Instr.a i)] rfl T.sl24 T.el3 rfl rfl rfl rfl rfl fun b2=>?_
 refine bA 6 [] ?_
 rotate_left
 refine cZ 6 [] ?_
 refine eX (fun hc4=>?_) fun hc4=>?_
 refine aM 7 [1,0] ?_
 refine iC (α:=Int) 1 [(Go.Sl.Instr.a i)] rfl T.sl24 T.el3 rfl rfl rfl rfl rfl fun b2=>?_
 refine bA 6 [] ?_
 rotate_left
 refine cZ 6 [] ?_
 refine eX (fun hc5=>?_) fun hc5=>?_
 refine aM 7 [1,0] ?_
 refine iC (α:=Int) 1 [(Go.Sl.Instr.a i)] rfl T.sl24 T.el3 rfl rfl rfl rfl rfl fun b2=>?_
 refine bA 6 [] ?_
 rotate_left
 refine cZ 6 [] ?_
 refine eX (fun hc6=>?_) fun hc6=>?_
 refine aM 7 [1,0] ?_
 refine iC (α:=Int) 1 [(Go.Sl.Instr.a i)] rfl T.sl24 T.el3 rfl rfl rfl rfl rfl fun b2=>?_
 refine bA 6 [] ?_
 rotate_left
 refine cZ 6 [] ?_
 refine eX (fun hc7=>?_) fun hc7=>?_
 refine aM 7 [1,0] ?_
 refine iC (α:=Int) 1 [(Go.Sl.Instr.a i)] rfl T.sl24 T.el3 rfl rfl rfl rfl rfl fun b2=>?_
 refine bA 6 [] ?_
 rotate_left
 refine cZ 5 [] ?_
 refine eX (fun hc8=>?_) fun hc8=>?_
 refine aM 4 [0] ?_
 refine iC (α:=Int) 1 [(Go.Sl.Instr.a i)] rfl T.sl24 T.el3 rfl rfl rfl rfl rfl fun b2=>?_
 refine bA 6 [] ?_
 rotate_left
 refine bQ 9 [] ?_
 rotate_left
 rotate_right
 · have h:uW i=[]:=by unfold uW;rw [aF (by omega),aF (by omega)]
   refine Bu 1 (rP 3 ([]:List Int) []) ?_
   refine pW [1] ?_
   rw [h];exact ⟨_,_,_,rfl,gF,rfl,rfl⟩
 all_goals first | refine eH (.inr rfl) (Ho:=Hp.only _ [1]) rfl (.tmp rfl) (bN _ _) ?_
 all_goals first
  | (have h:uW i=[i.a,i.b]:=by unfold uW;rw [aT (by omega)]
     rw [h];exact ⟨_,_,_,rfl,iG (by simp [maxLen]),rfl,rfl⟩)
  | (have h:uW i=[i.a]:=by unfold uW;rw [aF (by omega),aT (by omega)]
     rw [h];exact ⟨_,_,_,rfl,iG (by simp [maxLen]),rfl,rfl⟩)
  | skip
def wA (i:Sl.Instr) (regs:Int):Bool:=
 decide (1≤i.op∧i.op≤8∧0≤i.to∧i.to<regs∧(i.op=3∨i.op=4∨i.b=0)) && Al i.op i.c && (uW i).all fun r=>decide (0≤r∧r<regs)
theorem Fq {α:Type} [Inhabited α] (p:α→Bool) {l:List α} {k:Nat} (h:k<l.length):(l.take (k+1)).all p=((l.take k).all p && p (l[((k:Nat):Int).toNat]?.getD default)):=by
 have:l.take (k+1)=l.take k++[l[(k:Int).toNat]?.getD default]:=by
  rw [eE,aN,aD h];rfl
 rw [this,List.all_append];simp
theorem OY (G:Imm) (i:Sl.Instr) (regs:Int):Does Tryz.prog 173 [.agg (Cells.enc i).toArray,.int .i64 regs] G [] (fun v G' Ho=>v=.bool (decide (wA i regs=true))∧G'=G∧Ho=[]):=by
 refine D0 Tryz.func173 Tryz.ntmps173 fun w=>?_
 refine aM 2 [] ?_
 refine dY 0 fun b1=>?_
 refine aL 10 [0] ?_
 apply dA 4 10 14 rfl
 intro hg1
 refine aC 7 [0] ?_
 exact eL 4 0
 intro hg1
 refine aC 4 [] ?_
 exact eL 4 0
 refine aC 1 [] ?_
 apply dA 4 15 19 rfl
 intro hg1
 refine aC 7 [0] ?_
 exact eL 4 0
 intro hg1
 refine aC 4 [] ?_
 exact eL 4 0
 refine aC 1 [] ?_
 apply dA 5 20 25 rfl
 intro hg1
 refine aC 9 [0] ?_
 exact eL 5 0
 intro hg1
 refine aC 5 [] ?_
 exact eL 5 0
 refine aC 1 [] ?_
 apply dA 10 26 36 rfl
 intro hg1
 refine aC 5 [0] ?_
 refine bS rfl (OV _ _) ?_
 refine aC 1 [] ?_
 refine aP (eK rfl) ?_
 refine aC 2 [] ?_
 apply dT 4 31 35 rfl
 intro hg1
 refine aC 8 [0] ?_
 exact eL 4 0
 intro hg1
 refine aC 5 [] ?_
 exact eL 4 0
 refine aC 1 [] ?_
 exact eL 7 0
 intro hg1
 refine aC 5 [] ?_
 refine Ex rfl rfl rfl ?_
 refine Ex rfl rfl rfl ?_
 refine Ex rfl rfl rfl ?_
 refine aC 2 [] ?_
 exact eL 10 0
 refine aC 1 [] ?_
 apply dA 4 37 41 rfl
 intro hg1
 refine aC 3 [0] ?_
 refine bS rfl (OW _ _) ?_
 refine aC 1 [] ?_
 refine aP (eK rfl) ?_
 refine aC 1 [] ?_
 exact eL 4 0
 intro hg1
 refine aC 4 [] ?_
 exact eL 4 0
 refine bP 2 [] ?_
 refine eX (fun hc1=>?_) fun hc1=>?_
 refine bQ 7 [] ?_
 refine cI ?_
 rotate_left
 refine aM 6 [0] ?_
 refine cX 1 rfl (OX _ _) fun v1 G1 Ho1 hle1 hp=>?_
 obtain ⟨ad1,cd1,junk1,rfl,hoa1,rfl,rfl⟩:=hp
 refine bP 5 [] ?_
 rotate_left
 · refine ⟨?_,rfl,rfl⟩
   have:wA i regs=false:=by
    unfold wA
    rcases hc1 with ((((h | h) | h) | h) | h) | h
    all_goals first | (rw [bR qX];rfl) | simp [h]
   simp [this]
 have hasks:(uW i).length≤2:=by unfold uW;split <;> (try split) <;> simp
 refine iE (ι:=Nat) (fun k=>([(45,.int .i64 (k:Int)),(44,.int .i64 (↑(List.length (uW i)):Int)),(43,.slice ad1 (List.length (uW i)) cd1),(1,.int .i64 regs)],[(2,Option.map (fun x=>Go.Addr.block x) ad1,rP (α:=Int) 3 (uW i) (junk1)),(0,some b1,.cells (List.toArray (Cells.enc i)) 211)])) (fun k=>k≤(uW i).length∧((uW i).take k).all (fun r=>decide (0≤r∧r<regs))=true) (fun k=>(uW i).length - k) (0) (⟨aZ _,rfl⟩) fun k=>fun hk=>?_
 obtain ⟨hk1,hk2⟩:=hk
 refine cZ 6 [] ?_
 refine eX (fun hc2=>?_) fun hc2=>?_
 refine aM 6 [] ?_
 refine jE (α:=Int) T.sl24 ?_
 refine Wl.lo 2 0 T.one3 ?_
 refine aL 8 [] ?_
 apply dA 4 51 55 rfl
 intro hg1
 refine aC 7 [] ?_
 exact eL 4 0
 intro hg1
 refine aC 4 [] ?_
 exact eL 4 0
 refine bP 2 [] ?_
 refine eX (fun hc3=>?_) fun hc3=>?_
 refine bQ 11 [] ?_
 refine cI ?_
 rotate_left
 refine bQ 7 [] ?_
 rotate_left
 refine bQ 11 [] ?_
 refine cI ?_
 rotate_left
 · refine ⟨?_,rfl,rfl⟩
   have hl:k<(uW i).length:=qX
   have hx:(uW i)[(k:Int).toNat]?.getD default∈uW i:=by rw [aN,aD hl];simp
   have hf:((uW i).all fun r=>decide (0≤r∧r<regs))=false:=by
    rw [List.all_eq_false]
    exact ⟨_,hx,by simp only [aS];omega⟩
   have:wA i regs=false:=by unfold wA;rw [hf];simp
   simp [this]
 · refine dX (k+1) ?_ ?_
   · refine ⟨by omega,?_⟩
     rw [Fq _ qX,hk2]
     simp only [nY,aS]
     omega
   omega
 refine ⟨?_,rfl,rfl⟩
 have hk:k=(uW i).length:=qX
 subst hk
 rw [fK] at hk2
 have:wA i regs=true:=by
  unfold wA
  rw [hk2]
  simp only [not_or] at hc1
  simp only [Bool.and_true,aA,aS]
  refine ⟨by omega,?_⟩
  have:=hc1.2
  simpa using this
 simp [this]
structure PV where
 ins:Int
 regs:Int
 code:List Sl.Instr
 outs:List Int
def wT (p:PV):Bool:=decide (1≤p.ins∧p.ins≤p.regs∧p.regs≤128∧p.code.length≤16384∧1≤p.outs.length∧p.outs.length≤128) && p.outs.all fun r=>decide (0≤r∧r<p.regs)
def Jn (p:PV):Option Nat:=p.code.findIdx? fun i=>!wA i p.regs
def uX (p:PV):Int×Bool:=if wT p=false then (-1,true) else match Jn p with | some k=>(k,true) | none=>(0,false)
theorem Zi {α:Type} [Inhabited α] {p:α→Bool} {l:List α} {k:Nat} (h:k<l.length) (h1:(l.take k).all p=true) (h2:¬p (l[((k:Nat):Int).toNat]?.getD default)=true):l.findIdx? (fun i=>!p i)=some k:=by
 rw [qB]
 rw [aN,aD h,iH] at h2
 refine ⟨h,by simpa using h2,fun j hj=>?_⟩
 have hm:l[j]'(by omega)∈l.take k:=by rw [List.mem_take_iff_getElem];exact ⟨j,by omega,rfl⟩
 have:=dW.1 h1 _ hm
 simpa using this
theorem Vf {α:Type} {p:α→Bool} {l:List α} (h1:l.all p=true):l.findIdx? (fun i=>!p i)=none:=by
 rw [nJ]
 intro x hx
 simpa using dW.1 h1 x hx
theorem KD (G:Imm) (p:PV) (ac ao:Option Addr) (cc co:Nat) (hc:Arr G ac p.code) (ho:Arr G ao p.outs) (h1:p.code.length≤1099511627776) (h2:p.outs.length≤1099511627776) :
 Does Tryz.prog 124 [.agg #[.int .i64 p.ins,.int .i64 p.regs,.slice ac p.code.length cc,.slice ao p.outs.length co]] G [] (fun v G' Ho=>v=.tuple #[.int .i64 (uX p).1,.int .i64 (if (uX p).2 then 80 else 0)]∧G'=G∧Ho=[]):=by
 refine D0 Tryz.func124 Tryz.ntmps124 fun w=>?_
 refine aM 2 [] ?_
 refine dY 0 fun b1=>?_
 refine aL 11 [0] ?_
 apply dA 6 11 17 rfl
 intro hg1
 refine aC 11 [0,0] ?_
 exact eL 6 0
 intro hg1
 refine aC 6 [] ?_
 exact eL 6 0
 refine aC 1 [] ?_
 apply dA 4 18 22 rfl
 intro hg1
 refine aC 7 [0] ?_
 exact eL 4 0
 intro hg1
 refine aC 4 [] ?_
 exact eL 4 0
 refine aC 1 [] ?_
 apply dA 5 23 28 rfl
 intro hg1
 refine aC 9 [0] ?_
 exact eL 5 0
 intro hg1
 refine aC 5 [] ?_
 exact eL 5 0
 refine aC 1 [] ?_
 apply dA 5 29 34 rfl
 intro hg1
 refine aC 9 [0] ?_
 exact eL 5 0
 intro hg1
 refine aC 5 [] ?_
 exact eL 5 0
 refine aC 1 [] ?_
 apply dA 5 35 40 rfl
 intro hg1
 refine aC 9 [0] ?_
 exact eL 5 0
 intro hg1
 refine aC 5 [] ?_
 exact eL 5 0
 refine bP 2 [] ?_
 refine eX (fun hc1=>?_) fun hc1=>?_
 refine bQ 8 [] ?_
 refine eJ ?_
 rotate_left
 refine cZ 12 [0] ?_
 rotate_left
 · refine ⟨?_,rfl,rfl⟩
   have:wT p=false:=by unfold wT;rw [bR qX];rfl
   simp [uX,this]
 refine iE (ι:=Nat) (fun k=>([(44,.int .i64 (k:Int)),(43,.int .i64 (↑p.outs.length:Int)),(42,.slice ao p.outs.length co),(1,.pointer (some ⟨b1,0,none⟩))],[(0,some b1,.cells #[.int .i64 p.ins,.int .i64 p.regs,.slice ac p.code.length cc,.slice ao p.outs.length co] 26)])) (fun k=>k≤p.outs.length∧(p.outs.take k).all (fun r=>decide (0≤r∧r<p.regs))=true) (fun k=>p.outs.length - k) (0) (⟨aZ _,rfl⟩) fun k=>fun hk=>?_
 obtain ⟨hk1,hk2⟩:=hk
 refine cZ 6 [] ?_
 refine eX (fun hc2=>?_) fun hc2=>?_
 refine aM 6 [] ?_
 refine eO (α:=Int) T.sl24 ?_
 refine iD 0 T.one3 ?_
 refine aL 8 [] ?_
 apply dA 5 50 55 rfl
 intro hg1
 refine aC 9 [0] ?_
 exact eL 5 0
 intro hg1
 refine aC 5 [] ?_
 exact eL 5 0
 refine bP 2 [] ?_
 refine eX (fun hc3=>?_) fun hc3=>?_
 refine bQ 12 [] ?_
 refine eJ ?_
 rotate_left
 refine bQ 7 [] ?_
 rotate_left
 refine cZ 15 [0] ?_
 rotate_left
 · refine ⟨?_,rfl,rfl⟩
   have hl:k<p.outs.length:=qX
   have hx:p.outs[(k:Int).toNat]?.getD default∈p.outs:=by rw [aN,aD hl];simp
   have hf:(p.outs.all fun r=>decide (0≤r∧r<p.regs))=false:=by
    rw [List.all_eq_false]
    exact ⟨_,hx,by simp only [aS];omega⟩
   have:wT p=false:=by unfold wT;rw [hf,Bool.and_false]
   simp [uX,this]
 · refine dX (k+1) ?_ ?_
   · refine ⟨by omega,?_⟩
     rw [Fq _ qX,hk2]
     simp only [nY,aS]
     omega
   omega
 have hk:k=p.outs.length:=qX
 subst hk
 rw [fK] at hk2
 have hh:wT p=true:=by
  unfold wT
  rw [hk2,Bool.and_true,aS]
  omega
 clear hk1 hk2 hc2
 refine iE (ι:=Nat) (fun k=>([(60,.int .i64 (k:Int)),(59,.int .i64 (↑p.code.length:Int)),(58,.slice ac p.code.length cc),(1,.pointer (some ⟨b1,0,none⟩))],[(0,some b1,.cells #[.int .i64 p.ins,.int .i64 p.regs,.slice ac p.code.length cc,.slice ao p.outs.length co] 26)])) (fun k=>k≤p.code.length∧(p.code.take k).all (fun i=>wA i p.regs)=true) (fun k=>p.code.length - k) (0) (⟨aZ _,rfl⟩) fun k=>fun hk=>?_
 obtain ⟨hk1,hk2⟩:=hk
 refine cZ 6 [] ?_
 refine eX (fun hc2=>?_) fun hc2=>?_
 refine aM 7 [] ?_
 refine eO (α:=Instr) T.sl23 ?_
 refine nA T.agg211 ?_
 refine aW 1 rfl T.zero211 fun b2=>?_
 refine aL 9 [1,1,0] ?_
 refine bS rfl (OY _ _ _) ?_
 refine aP (eK rfl) ?_
 refine bP 2 [] ?_
 refine eX (fun hc3=>?_) fun hc3=>?_
 refine bQ 13 [] ?_
 refine eJ ?_
 rotate_left
 refine bQ 7 [] ?_
 rotate_left
 refine bQ 12 [] ?_
 refine eJ ?_
 rotate_left
 · refine ⟨?_,rfl,rfl⟩
   have hl:k<p.code.length:=qX
   have:Jn p=some k:=Zi hl hk2 hc3
   simp [uX,hh,this]
 · refine dX (k+1) ?_ ?_
   · refine ⟨by omega,?_⟩
     rw [Fq _ qX,hk2]
     simpa using hc3
   omega
 refine ⟨?_,rfl,rfl⟩
 have hk:k=p.code.length:=qX
 subst hk
 rw [fK] at hk2
 have:Jn p=none:=Vf hk2
 simp [uX,hh,this]
def rJ (p:PV):Bool:=!(uX p).2
instance:DecidableEq PV:=fun a b=>by
 cases a;cases b;simp only [PV.mk.injEq];infer_instance
theorem Lr {α:Type} [Inhabited α] {l m:List α} {k:Nat} (hl:k<l.length) (hm:k<m.length) (h:l.take k=m.take k)
 (he:l[((k:Nat):Int).toNat]?.getD default=m[((k:Nat):Int).toNat]?.getD default):l.take (k+1)=m.take (k+1):=by
 rw [aN,aD hl,aD hm] at he
 rw [eE,eE,h,aD hl,aD hm]
 simp only [iH] at he
 rw [he]
structure Tab where
 held:List Int
 known:List (K4×Int)
 first:List (K4×Int)
 next:Int
def start (p:PV):List Int:=(List.range p.regs.toNat).map fun r=>if (p.ins:Int)<((r:Nat):Int) then p.ins else ((r:Nat):Int)
theorem yF {p:PV} (h:rJ p=true):1≤p.ins∧p.ins≤p.regs∧p.regs≤128∧p.code.length≤16384∧1≤p.outs.length∧p.outs.length≤128∧(∀ r∈p.outs,0≤r∧r<p.regs)∧(∀ i∈p.code,wA i p.regs=true):=by
 unfold rJ uX at h
 by_cases hh:wT p=false
 · rw [aT hh] at h;cases h
 rw [aF hh] at h
 have hb:Jn p=none:=by
  cases hb:Jn p with
  | none=>rfl
  | some k=>rw [hb] at h;cases h
 have hh':wT p=true:=by simpa using hh
 unfold wT at hh'
 rw [aA,aS,dW] at hh'
 unfold Jn at hb
 rw [nJ] at hb
 obtain ⟨⟨g1,g2,g3,g4,g5,g6⟩,g7⟩:=hh'
 refine ⟨g1,g2,g3,g4,g5,g6,fun r hr=>?_,fun i hi=>?_⟩
 · have:=g7 r hr;rw [aS] at this;exact this
 simpa using hb i hi
section
variable {t:Tab} {out:List Sl.Instr} {n:Int} {i:Sl.Instr}
end
theorem get_mem {l:List Int} {r:Int} (h:0≤r∧r<l.length):l[r.toNat]?.getD default∈l:=by
 have hlt:r.toNat<l.length:=qX
 rw [aD hlt];exact eR hlt
def p2 (n:Nat):Int:=((2 ^ n:Nat):Int)
theorem Zj (n:Nat):0<p2 n:=by unfold p2;exact Int.ofNat_lt.2 (mF rI)
theorem KE {m n:Nat} (h:m≤n):p2 m≤p2 n:=by unfold p2;exact mW.2 (dZ rI h)
def cst (i:Sl.Instr):Int:=if i.op=5∨i.op=6 then i.c else p2 i.c.toNat
theorem Zk {i:Sl.Instr} (h:i.op=5∨i.op=6):cst i=i.c:=aT h
theorem GJ {i:Sl.Instr} (h:¬(i.op=5∨i.op=6)):cst i=p2 i.c.toNat:=aF h
def wB (y:Int) (xs:List Int):Prop:=∀ i:Nat,i<xs.length→xs[i]?.getD 0 % y=0
instance (y:Int) (xs:List Int):Decidable (wB y xs):=by unfold wB;infer_instance
def yT (i:Sl.Instr) (rs:List (List Int)):Option (List Int):=
 let a:=rs[i.a.toNat]?.getD []
 if i.op=2 then some (a.map (fun x=>-1*x))
 else if i.op=3 then some (List.zipWith (fun x y=>x+1*y) a (rs[i.b.toNat]?.getD []))
 else if i.op=4 then some (List.zipWith (fun x y=>x+(-1)*y) a (rs[i.b.toNat]?.getD []))
 else if i.op=5∨i.op=7 then some (a.map (fun x=>cst i*x))
 else if i.op=6∨i.op=8 then (if wB (cst i) a then some (a.map (· / cst i)) else none)
 else some a
def wO (p:PV) (gs:List (List Int)):List (List Int):=(List.range p.regs.toNat).map fun k=>if k<gs.length then gs[k]?.getD [] else List.replicate (gs[0]?.getD []).length 0
def wP (p:PV) (gs:List (List Int)):Nat→Option (List (List Int))
 | 0=>some (wO p gs)
 | k+1=>(wP p gs k).bind fun rs=>(yT (p.code[((k:Nat):Int).toNat]?.getD default) rs).map fun x=>rs.set (p.code[((k:Nat):Int).toNat]?.getD default).to.toNat x
def wU (p:PV) (rs:List (List Int)):List (List Int):=p.outs.map fun r=>rs[r.toNat]?.getD []
def sS (p:PV) (gs:List (List Int)):Option (List (List Int)):=(wP p gs p.code.length).map (wU p)
theorem Fs {p:PV} {gs:List (List Int)} {k:Nat} {rs x:List (List Int)} {y:List Int} (h:wP p gs k=some rs) (hd:yT (p.code[((k:Nat):Int).toNat]?.getD default) rs=some y) :
 wP p gs (k+1)=some (rs.set (p.code[((k:Nat):Int).toNat]?.getD default).to.toNat y):=by
 unfold wP;rw [h];simp only [gO,hd,dP]
theorem Ql {p:PV} {gs:List (List Int)} {k:Nat} (h:wP p gs k=none) (j:Nat):wP p gs (k+j)=none:=by
 induction j with
 | zero=>exact h
 | succ j ih=>rw [←nW];unfold wP;rw [ih];rfl
theorem Qm {p:PV} {gs:List (List Int)} {k:Nat} {rs:List (List Int)} (h:wP p gs k=some rs) (hd:yT (p.code[((k:Nat):Int).toNat]?.getD default) rs=none) (hk:k<p.code.length):sS p gs=none:=by
 have h1:wP p gs (k+1)=none:=by unfold wP;rw [h];simp only [gO,hd,iV]
 have h2:=Ql h1 (p.code.length - (k+1))
 rw [show k+1+(p.code.length - (k+1))=p.code.length by omega] at h2
 unfold sS;rw [h2];rfl
theorem Zl:∀ c:Nat,c≤64→((p2 c).natAbs:Int)<pw 5:=fun c hc=>by
 have h1:=KE hc
 have h2:=Zj c
 have h3:p2 64<pw 5:=by unfold p2 pw;decide
 omega
theorem Vg {i:Sl.Instr} {regs:Int} (h:wA i regs=true):(1≤i.op∧i.op≤8)∧(0≤i.to∧i.to<regs)∧(0≤i.a∧i.a<regs)∧(i.op=3∨i.op=4→0≤i.b∧i.b<regs)∧Al i.op i.c=true∧
 (i.op≠1→i.op≠2→i.op≠3→i.op≠4→cst i≠0∧((cst i).natAbs:Int)<pw 5)∧(i.op=5∨i.op=6→-9223372036854775808≤i.c∧i.c≤9223372036854775807)∧(¬(i.op=5∨i.op=6)→0≤i.c∧i.c≤64):=by
 unfold wA at h
 rw [aA,aA,aS,dW] at h
 obtain ⟨⟨⟨g1,g2,g3,g4,g5⟩,g6⟩,g7⟩:=h
 have hA:∀ r∈uW i,0≤r∧r<regs:=fun r hr=>by have:=g7 r hr;rwa [aS] at this
 have ha:i.a∈uW i:=by
  unfold uW
  split
  · exact bC
  rw [aT ⟨g1,g2⟩];exact bC
 have hc:=g6
 unfold Al at g6
 have k1:i.op=5∨i.op=6→i.c≠0∧-512≤i.c∧i.c≤512:=fun h=>by rw [aT h,aS] at g6;exact g6
 have k2:¬(i.op=5∨i.op=6)→(i.op=7∨i.op=8→1≤i.c∧i.c≤64)∧(¬(i.op=7∨i.op=8)→i.c=0):=fun h=>by
  rw [aF h] at g6
  refine ⟨fun h2=>?_,fun h2=>?_⟩
  · rw [aT h2,aS] at g6;exact g6
  rw [aF h2,aS] at g6;exact g6
 refine ⟨⟨g1,g2⟩,⟨g3,g4⟩,hA _ ha,fun h34=>hA _ (by unfold uW;rw [aT h34];exact aV _ bC),hc,fun n1 n2 n3 n4=>?_,fun h56=>by have:=k1 h56;omega,fun h56=>?_⟩
 · by_cases h56:i.op=5∨i.op=6
   · rw [Zk h56]
     have:=k1 h56
     have h3:(65536:Int)<pw 5:=by unfold pw;decide
     exact ⟨this.1,by omega⟩
   rw [GJ h56]
   have h2:=(k2 h56).1 qX
   have:=Zj i.c.toNat
   exact ⟨by omega,Zl _ qX⟩
 by_cases h78:i.op=7∨i.op=8
 · have:=(k2 h56).1 h78;omega
 have:=(k2 h56).2 h78;omega
theorem Jo (p:PV) (gs:List (List Int)):(wO p gs).length=p.regs.toNat:=by unfold wO;rw [bZ,hJ]
theorem Oa {p:PV} {gs:List (List Int)} {k:Nat} (hk:k<p.regs.toNat):(wO p gs)[k]?.getD []=if k<gs.length then gs[k]?.getD [] else List.replicate (gs[0]?.getD []).length 0:=by
 unfold wO
 rw [cG,gH hk];rfl
section
variable {B:Bs} {e:Env} {D:List Deferred} {H:Hp} {G:Imm}
theorem retagH {a:Act} {w:World} (hh:Hold B ⟨e,D,H,G⟩ a w) (t t':Nat) {k:Option Nat} {o:Obj} (ht:H.get t=some (k,o)) (hn:t≠t') (hk:H.get t'=none∨True):Hold B ⟨e,D,(t',k,o) :: (t,none,o) :: H,G⟩ a w:=by
 have key:∀ i b o',Hp.get ((t',k,o) :: (t,none,o) :: H) i=some (some b,o')→(i=t'∧H.get t=some (some b,o'))∨(i≠t'∧i≠t∧H.get i=some (some b,o')):=fun i b o' hx=>by
  rw [bF] at hx
  split at hx
  · rename_i hi;left;refine ⟨hi.symm,?_⟩;rw [ht];exact hx
  rename_i hi
  rw [bF] at hx
  split at hx
  · simp at hx
  rename_i hi2;exact .inr ⟨fun h=>hi h.symm,fun h=>hi2 h.symm,hx⟩
 refine ⟨hh.size,hh.defers,hh.env,⟨?_,?_,hh.mem.imm,?_⟩,hh.upd,?_,hh.le,hh.new⟩
 · intro i b o' hx
   rcases key i b o' hx with ⟨_,h⟩ | ⟨_,_,h⟩
   · exact hh.mem.own _ b o' h
   exact hh.mem.own _ b o' h
 · intro i i' b o1 o2 hx hy
   rcases key i b o1 hx with ⟨h1,h2⟩ | ⟨h1,h1',h2⟩ <;> rcases key i' b o2 hy with ⟨h3,h4⟩ | ⟨h3,h3',h4⟩
   · rw [h1,h3]
   · exact absurd (hh.mem.one _ _ b _ _ h2 h4).symm h3'
   · exact absurd (hh.mem.one _ _ b _ _ h2 h4) h1'
   exact hh.mem.one _ _ b _ _ h2 h4
 · intro i b o' hx
   rcases key i b o' hx with ⟨_,h⟩ | ⟨_,_,h⟩
   · exact hh.mem.off _ b o' h
   exact hh.mem.off _ b o' h
 intro i b o' hx
 rcases key i b o' hx with ⟨_,h⟩ | ⟨_,_,h⟩
 · exact hh.mine _ b o' h
 exact hh.mine _ b o' h
theorem Ar.retag {x:Exit} {Q:Exit→Act→World→Prop} (t t':Nat) {k:Option Nat} {o:Obj} (ht:H.get t=some (k,o)) (hn:Nat.beq t t'=false) (h:Ar Q x B ⟨e,D,(t',k,o) :: (t,none,o) :: H,G⟩):Ar Q x B ⟨e,D,H,G⟩:=
 fun a w hh=>h a w (retagH hh t t' ht (fun e=>by subst e;simp at hn) (.inr trivial))
end
section
attribute [local irreducible] Iq pw sG p2
end
section
attribute [local irreducible] Iq pw sG p2
def HK (m N:Nat) (rs:List (List Int)):Prop:=∀ zs∈rs,zs.length=N∧Go.Sl.Below m zs
end
def Bigs (G:Imm) (l:List IV) (zs:List Int):Prop:=l.length=zs.length∧∀ i:Nat,i<l.length→Big G (l[i]?.getD default) (zs[i]?.getD 0)
theorem Bigs.up {G G':Imm} {l:List IV} {zs:List Int} (h:Bigs G l zs) (hl:G.le G'):Bigs G' l zs:=⟨h.1,fun i hi=>(h.2 i hi).up hl⟩
theorem Bigs.at {G:Imm} {l:List IV} {zs:List Int} (h:Bigs G l zs) {k:Int} (hk:0≤k∧k<l.length):Big G (l[k.toNat]?.getD default) (zs[k.toNat]?.getD 0):=h.2 _ qX
theorem Bigs.set {G:Imm} {l:List IV} {zs:List Int} (h:Bigs G l zs) (k:Nat) {x:IV} {z:Int} (hx:Big G x z):Bigs G (l.set k x) (zs.set k z):=by
 refine ⟨by rw [aI,aI];exact h.1,fun i hi=>?_⟩
 rw [aI] at hi
 rw [fO,fO]
 have h1:=h.1
 by_cases hk:k=i
 · subst hk
   rw [aT rfl,aT rfl,aT hi,aT (by omega)];exact hx
 rw [aF hk,aF hk];exact h.2 i hi
theorem Qn (G:Imm) (n:Nat):Bigs G (List.replicate n (default:IV)) (List.replicate n 0):=by
 refine ⟨by rw [aH,aH],fun i hi=>?_⟩
 rw [aH] at hi
 rw [oC,oC,aT hi,aT hi]
 exact Big.zero G
abbrev pZ:=@Qn
def Below (m:Nat) (zs:List Int):Prop:=∀ z∈zs,(z.natAbs:Int)<pb m
theorem Below.at {m:Nat} {zs:List Int} (h:Below m zs) (k:Nat):((zs[k]?.getD 0).natAbs:Int)<pb m:=by
 rcases aR k zs.length with h1 | h1
 · rw [aD h1];exact h _ (eR h1)
 rw [cJ h1];exact uK m
theorem HL:((1:Int).natAbs:Int)<pb 1:=by unfold pb;decide
theorem HM (n:Nat):p2 n=((2 ^ n:Nat):Int):=rfl
theorem Ft {z:Int}:Ny z=0↔z=0:=by
 unfold Ny
 split
 · simp [*]
 split <;> omega
theorem Qo {x y:Int} (hy:y≠0):((x % y).natAbs:Int)<y.natAbs:=by
 have e1:=iY x hy
 rcases Int.lt_or_gt_of_ne hy with h | h
 · have e2:=dM x (show 0 < -y by omega)
   rw [Int.emod_neg] at e2
   omega
 have e2:=dM x h
 omega
section
attribute [local irreducible] qZ pb sG rM p2
theorem OZ (G:Imm) (n:Nat) (hn:n≤64) :
 Does Tryz.prog 317 [.int .i64 (n:Int)] G [] (fun v G' Ho=>∃ r:IV,v=.agg (Cells.enc r).toArray∧Big G' r (p2 n)∧Ho=[]):=by
 refine D0 Tryz.func317 Tryz.ntmps317 fun w=>?_
 refine aM 2 [] ?_
 refine aW 0 rfl T.zero89 fun b1=>?_
 refine aL 4 [] ?_
 refine cX 1 rfl (CN _ _ qX) fun v1 G1 Ho1 hle1 hp=>?_
 obtain ⟨ro1,rfl,hro1,rfl⟩:=hp
 refine aC 1 [] ?_
 refine kA 7 rfl (show _=Value.int .i64 ((32*(n / 32)+n % 32:Nat):Int) by rw [kH]) ?_
 refine cX 20 rfl (c56 _ ro1 1 (n / 32) (n % 32) hro1 (aK (gM hro1 HL) rI) (lN _ rI) qX) fun v9 G9 Ho9 hle9 hp=>?_
 obtain ⟨r9,rfl,hr9,rfl⟩:=hp
 refine aC 3 [] ?_
 refine aW 1 rfl T.zero89 fun b2=>?_
 refine bA 11 [1,1,0] ?_
 refine eH (.inr rfl) (Ho:=Hp.only _ []) rfl (.agg 0 rfl rfl T.agg89) (bN _ _) ?_
 exact ⟨r9,rfl,Big.out hr9 (by rw [kH,fZ,HM]),rfl⟩
end
def tU (a b:Int):Prop:=-16≤a∧a≤16∧-16≤b∧b≤16
instance (a b:Int):Decidable (tU a b):=inferInstanceAs (Decidable (_∧_))
theorem KF (G:Imm) (n:Int):Does Tryz.prog 205 [.int .i64 n] G [] (fun v G' Ho=>v=.bool (decide (-16≤n∧n≤16))∧G'=G∧Ho=[]):=by
 refine D0 Tryz.func205 Tryz.ntmps205 fun w=>?_
 refine aM 10 [] ?_
 apply dT 3 5 8 rfl
 intro hg1
 refine aC 5 [] ?_
 exact eL 3 0
 intro hg1
 refine aC 3 [] ?_
 exact eL 3 0
 refine bA 4 [] ?_
 refine cI ?_
 exact ⟨rfl,rfl,rfl⟩
theorem PA (G:Imm) (n:Int) (h:-9223372036854775807≤n):Does Tryz.prog 316 [.int .i64 n] G [] (fun v G' Ho=>v=.int .i64 (n.natAbs:Int)∧G'=G∧Ho=[]):=by
 refine D0 Tryz.func316 Tryz.ntmps316 fun w=>?_
 refine cZ 12 [] ?_
 refine eX (fun hc1=>?_) fun hc1=>?_
 refine aM 3 [] ?_
 refine aP (Qy.neg rfl qX) ?_
 refine bA 5 [] ?_
 refine cI ?_
 rotate_left
 refine bQ 9 [] ?_
 refine cI ?_
 rotate_left
 · exact ⟨by congr 1;omega,rfl,rfl⟩
 exact ⟨by congr 1;omega,rfl,rfl⟩
theorem PB (G:Imm) (a b:Int) (h1:-4611686018427387904≤a∧a≤4611686018427387904) (h2:-4611686018427387904≤b∧b≤4611686018427387904):Does Tryz.prog 290 [.int .i64 a,.int .i64 b] G [] (fun v G' Ho=>v=.int .i64 (Int.gcd a b:Int)∧G'=G∧Ho=[]):=by
 refine D0 Tryz.func290 Tryz.ntmps290 fun w=>?_
 refine cZ 7 [] ?_
 refine iE (ι:=Int×Int) (fun (x,y)=>([(0,.int .i64 x),(1,.int .i64 y),(4,.int .i64 0)],[])) (fun (x,y)=>Int.gcd x y=Int.gcd a b∧(-4611686018427387904≤x∧x≤4611686018427387904)∧(-4611686018427387904≤y∧y≤4611686018427387904)) (fun (x,y)=>y.natAbs) ((a,b)) (⟨rfl,h1,h2⟩) fun ⟨x,y⟩=>fun hk=>?_
 obtain ⟨hg,hx,hy⟩:=hk
 refine cZ 7 [] ?_
 refine eX (fun hc1=>?_) fun hc1=>?_
 refine cZ 3 [] ?_
 refine eZ [] [] T.mixed [[0],[1],[2]] ?_
 refine gQ 3 [] rfl (Qy.rem rfl rfl qX) ?_
 refine fE [[4],[5]] ?_
 refine eI ?_
 refine qN ?_
 rotate_left
 refine aM 8 [] ?_
 refine bS rfl (PA _ _ qX) ?_
 refine bA 4 [] ?_
 refine cI ?_
 rotate_left
 · have e:=Int.natAbs_tmod x y
   have hyp:0<y.natAbs:=qX
   have e2:=lN x.natAbs hyp
   have e3:=Nat.mod_le x.natAbs y.natAbs
   refine dX ((y,x.tmod y)) ?_ ?_
   · refine ⟨?_,hy,by omega⟩
     rw [←hg]
     show Nat.gcd y.natAbs (x.tmod y).natAbs=Nat.gcd x.natAbs y.natAbs
     rw [e,Nat.gcd_comm,←Nat.gcd_rec,Nat.gcd_comm]
   show (x.tmod y).natAbs<y.natAbs
   omega
 refine ⟨?_,rfl,rfl⟩
 rw [←hg]
 have e:y=0:=qX
 subst e
 rw [Int.gcd_zero_right]
theorem PC (G:Imm) (a b:Int):Does Tryz.prog 164 [.agg #[.int .i64 a,.int .i64 b]] G [] (fun v G' Ho=>v=.bool (decide (tU a b))∧G'=G∧Ho=[]):=by
 refine D0 Tryz.func164 Tryz.ntmps164 fun w=>?_
 refine aM 2 [] ?_
 refine dY 0 fun b1=>?_
 refine aL 7 [0] ?_
 refine bS rfl (by apply KF <;> first | assumption | omega | rfl) ?_
 refine aC 1 [] ?_
 apply dT 4 6 10 rfl
 intro hg1
 refine aC 5 [0] ?_
 refine bS rfl (by apply KF <;> first | assumption | omega | rfl) ?_
 refine aC 1 [] ?_
 exact eL 4 0
 intro hg1
 refine aC 4 [] ?_
 exact eL 4 0
 refine bA 4 [] ?_
 refine cI ?_
 exact ⟨by congr 1;exact decide_eq_decide.mpr (by unfold tU;omega),rfl,rfl⟩
theorem KG (G:Imm) (a b:Int):Does Tryz.prog 166 [.agg #[.int .i64 a,.int .i64 b]] G [] (fun v G' Ho=>v=.bool (decide (a=0∧b=0))∧G'=G∧Ho=[]):=by
 refine D0 Tryz.func166 Tryz.ntmps166 fun w=>?_
 refine aM 2 [] ?_
 refine dY 0 fun b1=>?_
 refine aL 6 [0] ?_
 refine aP (fI (cs:=[_,_]) T.st51 rfl rfl rfl) ?_
 refine aP (zZ [_,_] [_,_] T.ai51 rfl rfl rfl rfl) ?_
 refine bA 4 [] ?_
 refine cI ?_
 exact ⟨by congr 1;exact decide_eq_decide.mpr rV,rfl,rfl⟩
def Ob (a b:Int):Int:=if b<0∨(b=0∧a<0) then -(Int.gcd a b:Int) else (Int.gcd a b:Int)
def GK (a b:Int):Int×Int:=if a=0∧b=0 then (a,b) else (a.tdiv (Ob a b),b.tdiv (Ob a b))
theorem Am (a g:Int):-(a.natAbs:Int)≤a.tdiv g∧a.tdiv g≤a.natAbs:=by
 have h:(a.tdiv g).natAbs=a.natAbs / g.natAbs:=Int.natAbs_tdiv a g
 have h2:=Nat.div_le_self a.natAbs g.natAbs
 omega
theorem KH (G:Imm) (a b:Int) (h1:-4611686018427387904≤a∧a≤4611686018427387904) (h2:-4611686018427387904≤b∧b≤4611686018427387904):Does Tryz.prog 248 [.agg #[.int .i64 a,.int .i64 b]] G [] (fun v G' Ho=>v=.agg #[.int .i64 (GK a b).1,.int .i64 (GK a b).2]∧G'=G∧Ho=[]):=by
 refine D0 Tryz.func248 Tryz.ntmps248 fun w=>?_
 have hga:=Int.gcd_dvd_left a b
 have hgb:=Int.gcd_dvd_right a b
 have hgm:(Int.gcd a b:Int)≤4611686018427387904:=by
  by_cases h:a=0
  · subst h;rw [Int.gcd_zero_left];omega
  have:=Int.le_of_dvd (show 0<(a.natAbs:Int) by omega) (Int.dvd_natAbs.mpr hga);omega
 have q1:=Am a (Int.gcd a b:Int)
 have q2:=Am b (Int.gcd a b:Int)
 have q3:=Am a (-(Int.gcd a b:Int))
 have q4:=Am b (-(Int.gcd a b:Int))
 refine aM 2 [] ?_
 refine dY 0 fun b1=>?_
 refine aW 1 rfl T.zero51 fun b2=>?_
 refine aL 8 [0,0] ?_
 refine bS rfl (PB _ _ _ qX qX) ?_
 refine bP 12 [] ?_
 refine eX (fun hc1=>?_) fun hc1=>?_
 refine bQ 9 [0,1] ?_
 refine eH (.inr rfl) (Ho:=Hp.only _ []) rfl (.agg 1 rfl rfl T.agg51) (bN _ _) ?_
 rotate_left
 refine cZ 9 [0] ?_
 refine eX (fun hc2=>?_) fun hc2=>?_
 refine aM 5 [1] ?_
 refine aP (Qy.neg rfl qX) ?_
 refine bP 5 [] ?_
 refine eZ [0,1] [(1,9)] T.mixed [[0],[1,0],[2]] ?_
 refine gQ 3 [] rfl (Qy.quo rfl rfl qX qX) ?_
 refine fE [[4],[5,0],[6]] ?_
 refine gQ 7 [] rfl (Qy.quo rfl rfl qX qX) ?_
 refine gQ 8 [] rfl (fI (cs:=[_,_]) T.st51 rfl rfl rfl) ?_
 refine gC 9 ?_
 refine aC 1 [1] ?_
 refine jC ?_
 refine iN 2 [] ?_
 refine eH (.inr rfl) (Ho:=Hp.only _ []) rfl (.agg 1 rfl rfl T.agg51) (bN _ _) ?_
 rotate_left
 refine aM 5 [0] ?_
 apply dT 4 20 24 rfl
 intro hg1
 refine aC 7 [0] ?_
 exact eL 4 0
 intro hg1
 refine aC 4 [] ?_
 exact eL 4 0
 refine bP 3 [] ?_
 refine eX (fun hc3=>?_) fun hc3=>?_
 refine aM 2 [] ?_
 refine aP (Qy.neg rfl qX) ?_
 refine bP 5 [] ?_
 refine eZ [0,1] [(1,9)] T.mixed [[0],[1,0],[2]] ?_
 refine gQ 3 [] rfl (Qy.quo rfl rfl qX qX) ?_
 refine fE [[4],[5,0],[6]] ?_
 refine gQ 7 [] rfl (Qy.quo rfl rfl qX qX) ?_
 refine gQ 8 [] rfl (fI (cs:=[_,_]) T.st51 rfl rfl rfl) ?_
 refine gC 9 ?_
 refine aC 1 [1] ?_
 refine jC ?_
 refine iN 2 [] ?_
 refine eH (.inr rfl) (Ho:=Hp.only _ []) rfl (.agg 1 rfl rfl T.agg51) (bN _ _) ?_
 rotate_left
 refine cZ 4 [] ?_
 refine eZ [0,1] [(1,9)] T.mixed [[0],[1,0],[2]] ?_
 refine gQ 3 [] rfl (Qy.quo rfl rfl qX qX) ?_
 refine fE [[4],[5,0],[6]] ?_
 refine gQ 7 [] rfl (oH rfl rfl qX) ?_
 refine gQ 8 [] rfl (fI (cs:=[_,_]) T.st51 rfl rfl rfl) ?_
 refine gC 9 ?_
 refine aC 1 [1] ?_
 refine jC ?_
 refine iN 2 [] ?_
 refine eH (.inr rfl) (Ho:=Hp.only _ []) rfl (.agg 1 rfl rfl T.agg51) (bN _ _) ?_
 rotate_left
 · obtain ⟨ea,eb⟩:=Int.gcd_eq_zero_iff.mp (show Int.gcd a b=0 by omega)
   exact ⟨by unfold GK;rw [aT ⟨ea,eb⟩],rfl,rfl⟩
 · have hn:¬(a=0∧b=0):=qX
   exact ⟨by unfold GK Ob;rw [aF hn,aT (by omega)],rfl,rfl⟩
 · have hn:¬(a=0∧b=0):=qX
   exact ⟨by unfold GK Ob;rw [aF hn,aT (by omega)],rfl,rfl⟩
 have hn:¬(a=0∧b=0):=fun h=>hc1 (by rw [h.1,h.2];rfl)
 exact ⟨by unfold GK Ob;rw [aF hn,aF (by omega),Int.tdiv_eq_ediv_of_nonneg (a:=b) qX],rfl,rfl⟩
def same (a b c d:Int):Prop:=GK a b=GK c d
instance (a b c d:Int):Decidable (same a b c d):=inferInstanceAs (Decidable (_=_))
theorem PD (G:Imm) (a b c d:Int):Does Tryz.prog 207 [.agg #[.int .i64 a,.int .i64 b],.agg #[.int .i64 c,.int .i64 d]] G [] (fun v G' Ho=>v=.tuple #[.bool (decide (tU a b∧tU c d∧same a b c d)),.int .i64 (if tU a b∧tU c d then 0 else 2)]∧G'=G∧Ho=[]):=by
 refine D0 Tryz.func207 Tryz.ntmps207 fun w=>?_
 refine aM 2 [] ?_
 refine dY 0 fun b1=>?_
 refine dY 1 fun b2=>?_
 refine aL 8 [0] ?_
 refine bS rfl Jc ?_
 refine aP (eK rfl) ?_
 refine aC 1 [] ?_
 apply dA 4 9 13 rfl
 intro hg1
 refine aC 3 [1] ?_
 refine bS rfl Jc ?_
 refine aC 1 [] ?_
 refine aP (eK rfl) ?_
 refine aC 1 [] ?_
 exact eL 4 0
 intro hg1
 refine aC 4 [] ?_
 exact eL 4 0
 refine bP 2 [] ?_
 refine eX (fun hc1=>?_) fun hc1=>?_
 refine bQ 8 [] ?_
 refine eJ ?_
 rotate_left
 refine cZ 3 [] ?_
 refine eZ [0,1] [] T.mixed [[0,0],[2,1]] ?_
 refine gC 1 ?_
 refine bS rfl (KH _ _ _ Je Je) ?_
 refine cT 3 ?_
 refine bS rfl (KH _ _ _ Je Je) ?_
 refine eU ?_
 refine gQ 4 [] rfl (zZ [_,_] [_,_] T.ai51 rfl rfl rfl rfl) ?_
 refine fE [[5],[6]] ?_
 refine eI ?_
 refine iN 2 [] ?_
 refine eJ ?_
 rotate_left
 · exact ⟨by rw [aF (by unfold tU at *;omega),bR (fun h=>absurd (And.intro h.1 h.2.1) Je)],rfl,rfl⟩
 refine ⟨?_,rfl,rfl⟩
 rw [aT (by unfold tU at *;omega)]
 congr 4
 exact decide_eq_decide.mpr (by unfold same tU at *;rw [Prod.ext_iff];simp;omega)
def Qp (p q:R2):Prop:=tU p.a p.b∧tU q.a q.b∧same p.a p.b q.a q.b
def Twin (l:List R2):Prop:=∃ j,j<l.length∧∃ i,i<j∧Qp (l[i]?.getD default) (l[j]?.getD default)
theorem KI (G:Imm) (a:Option Addr) (c:Nat) (l:List R2) (ha:Arr G a l) (h1:l.length≤1048576) (hc:l.length≤c):Does Tryz.prog 167 [.slice a l.length c] G [] (fun v G' Ho=>∃ (i j:Int) (b:Bool),v=.tuple #[.int .i64 i,.int .i64 j,.bool b]∧(b=true↔Twin l)∧G'=G∧Ho=[]):=by
 refine D0 Tryz.func167 Tryz.ntmps167 fun w=>?_
 refine cZ 16 [] ?_
 refine iE (ι:=Nat) (fun j=>([(13,.int .i64 (j:Int)),(12,.int .i64 (l.length:Int)),(11,.slice a (List.length l) c),(0,.slice a (List.length l) c)],[])) (fun j=>j≤l.length∧(∀ j',j'<j→∀ i,i<j'→¬Qp (l[i]?.getD default) (l[j']?.getD default))) (fun j=>l.length - j) (0) (⟨aZ _,fun j' h=>absurd h qX⟩) fun j=>fun hk=>?_
 obtain ⟨hj,hno⟩:=hk
 refine cZ 6 [] ?_
 refine eX (fun hc1=>?_) fun hc1=>?_
 refine aM 7 [] ?_
 refine eO (α:=R2) T.sl22 ?_
 refine nA T.agg51 ?_
 refine aW 0 rfl T.zero51 fun b1=>?_
 refine aL 8 [0] ?_
 refine aP (DG T.sl22 rfl rfl qX) ?_
 refine bP 5 [] ?_
 rotate_left
 refine bQ 13 [] ?_
 refine Ar.e3 ?_
 rotate_left
 · have haj:Arr G (subA a c 0 2) (l.take j):=Fj ha j
   have ej:(l.take j).length=j:=by rw [bJ];omega
   refine kR 20 rfl (show _=Value.slice (subA a c 0 2) (l.take j).length c by rw [ej];rfl) ?_
   refine iE (ι:=Nat) (fun i=>([(22,.int .i64 (i:Int)),(0,.slice a l.length c),(11,.slice a l.length c),(12,.int .i64 (l.length:Int)),(20,.slice (Go.Sl.subA a c 0 2) (List.length (List.take j l)) c),(21,.int .i64 (↑(Int.toNat (↑j:Int)):Int)),(5,.int .i64 (↑j:Int)),(6,.pointer (some ⟨b1,0,none⟩)),(13,.int .i64 (↑j:Int))],[(0,some b1,.cells (List.toArray (Cells.enc (Option.getD l[Int.toNat (↑j:Int)]? default))) 51)])) (fun i=>i≤j∧(∀ i',i'<i→¬Qp (l[i']?.getD default) (l[j]?.getD default))) (fun i=>j - i) (0) (⟨aZ _,fun i' h=>absurd h qX⟩) fun i=>fun hk=>?_
   obtain ⟨hi,hni⟩:=hk
   have eti:i<j→(l.take j)[(i:Int).toNat]?.getD default=l[i]?.getD default:=fun h=>by rw [gR,aT (by omega)];rfl
   have etj:l[(j:Int).toNat]?.getD default=l[j]?.getD default:=rfl
   refine cZ 6 [] ?_
   refine eX (fun hc2=>?_) fun hc2=>?_
   refine aM 7 [] ?_
   refine eO (α:=R2) T.sl22 ?_
   refine nA T.agg51 ?_
   refine aW 1 rfl T.zero51 fun b2=>?_
   refine aL 8 [1,1,0] ?_
   refine bS rfl (by apply PD <;> first | assumption | omega | rfl) ?_
   refine bP 12 [] ?_
   refine eX (fun hc3=>?_) fun hc3=>?_
   refine bQ 19 [] ?_
   refine Ar.e3 ?_
   rotate_left
   refine bQ 7 [] ?_
   rotate_left
   refine bQ 10 [] ?_
   rotate_left
   · rw [eti qX] at hc3
     exact ⟨_,_,true,rfl,⟨fun _=>⟨j,by omega,i,by omega,hc3⟩,fun _=>rfl⟩,rfl,rfl⟩
   · refine cS 22 rfl (show _=Value.int .i64 ((i+1:Nat):Int) from rfl) ?_
     refine dX (i+1) ?_ ?_
     · refine ⟨by omega,fun i' h2=>?_⟩
       rcases aR i' i with h | h
       · exact hni i' h
       have e:i'=i:=qX
       subst e;intro hq;rw [eti qX] at hc3;exact hc3 hq
     omega
   refine cS 13 rfl (show _=Value.int .i64 ((j+1:Nat):Int) from rfl) ?_
   refine dX (j+1) ?_ ?_
   · refine ⟨by omega,fun j' h1 i h2=>?_⟩
     rcases aR j' j with h | h
     · exact hno j' h i h2
     have e:j'=j:=qX
     subst e;exact hni i qX
   omega
 refine ⟨0,0,false,rfl,⟨fun h=>absurd h rI,fun ⟨j',h1,i',h2,h3⟩=>absurd h3 (hno j' qX i' h2)⟩,rfl,rfl⟩
def GL (p:R2):Prop:=tU p.a p.b∧¬(p.a=0∧p.b=0)
def tV (l:List R2):Prop:=1≤l.length∧l.length≤15∧(∀ i,i<l.length→GL (l[i]?.getD default))∧¬Twin l
theorem PE (G:Imm) (a:Option Addr) (c:Nat) (l:List R2) (ha:Arr G a l) (h1:l.length≤1048576) (hc:l.length≤c):Does Tryz.prog 226 [.slice a l.length c] G [] (fun v G' Ho=>∃ b:Bool,v=.bool b∧(b=true↔tV l)∧G'=G∧Ho=[]):=by
 refine D0 Tryz.func226 Tryz.ntmps226 fun w=>?_
 refine aM 12 [] ?_
 apply dA 4 11 15 rfl
 intro hg1
 refine aC 7 [] ?_
 exact eL 4 0
 intro hg1
 refine aC 4 [] ?_
 exact eL 4 0
 refine bP 2 [] ?_
 refine eX (fun hc1=>?_) fun hc1=>?_
 refine bQ 7 [] ?_
 refine cI ?_
 rotate_left
 refine cZ 11 [] ?_
 rotate_left
 · exact ⟨false,rfl,⟨fun h=>absurd h rI,fun h=>absurd h.1 (by have:=h.2.1;omega)⟩,rfl,rfl⟩
 refine iE (ι:=Nat) (fun j=>([(18,.int .i64 (j:Int)),(0,.slice a l.length c),(17,.int .i64 (l.length:Int)),(16,.slice a (List.length l) c)],[])) (fun j=>j≤l.length∧(∀ i,i<j→GL (l[i]?.getD default))) (fun j=>l.length - j) (0) (⟨aZ _,fun j' h=>absurd h qX⟩) fun j=>fun hk=>?_
 obtain ⟨hj,hno⟩:=hk
 refine cZ 6 [] ?_
 refine eX (fun hc2=>?_) fun hc2=>?_
 refine aM 6 [] ?_
 refine eO (α:=R2) T.sl22 ?_
 refine nA T.agg51 ?_
 refine aW 0 rfl T.zero51 fun b1=>?_
 refine aL 6 [0,0] ?_
 refine bS rfl Jc ?_
 refine aP (eK rfl) ?_
 refine aC 1 [] ?_
 apply dA 3 25 28 rfl
 intro hg1
 refine aC 3 [0] ?_
 refine bS rfl (by apply KG <;> first | assumption | omega | rfl) ?_
 refine aC 1 [] ?_
 exact eL 3 0
 intro hg1
 refine aC 3 [] ?_
 exact eL 3 0
 refine bP 2 [] ?_
 refine eX (fun hc3=>?_) fun hc3=>?_
 refine bQ 11 [] ?_
 refine cI ?_
 rotate_left
 refine bQ 7 [] ?_
 rotate_left
 refine aM 8 [] ?_
 refine cX 0 rfl (KI _ _ _ _ qY qX sW) fun v1 G1 Ho1 hle1 hp=>?_
 obtain ⟨ti1,tj1,tb1,rfl,htb1,rfl,rfl⟩:=hp
 refine bA 17 [] ?_
 refine cI ?_
 rotate_left
 · exact ⟨false,rfl,⟨fun h=>absurd h rI,fun h=>absurd (h.2.2.1 j qX) (by show ¬GL (l[(j:Int).toNat]?.getD default);unfold GL;unfold tU at *;omega)⟩,rfl,rfl⟩
 · refine cS 18 rfl (show _=Value.int .i64 ((j+1:Nat):Int) from rfl) ?_
   refine dX (j+1) ?_ ?_
   · refine ⟨by omega,fun i' h2=>?_⟩
     rcases aR i' j with h | h
     · exact hno i' h
     have e:i'=j:=qX
     subst e
     show GL (l[(i':Int).toNat]?.getD default)
     unfold GL;unfold tU at *;omega
   omega
 refine ⟨!tb1,rfl,?_,rfl,rfl⟩
 have e:(∀ i,i<l.length→GL (l[i]?.getD default)):=fun i hi=>hno i qX
 rw [cW,Bool.eq_false_iff,ne_eq,htb1]
 exact ⟨fun h=>⟨by omega,by omega,e,h⟩,fun h=>h.2.2.2⟩
instance (a b c d:Int):Decidable (if (a=0∧b=0)∨(c=0∧d=0) then (a=0∧b=0)∧(c=0∧d=0) else a*d - c*b=0):=by split <;> infer_instance
def PG (a b c d:Int):Prop:=if (a=0∧b=0)∨(c=0∧d=0) then (a=0∧b=0)∧(c=0∧d=0) else a*d - c*b=0
instance (a b c d:Int):Decidable (PG a b c d):=inferInstanceAs (Decidable (if (a=0∧b=0)∨(c=0∧d=0) then (a=0∧b=0)∧(c=0∧d=0) else a*d - c*b=0))
section
attribute [local irreducible] qZ pb sG rM p2
theorem KJ (G:Imm) (x:IV) (z n:Int) (hx:Big G x z) (h1:x.n≤536870912) (hn:-9223372036854775808≤n∧n≤9223372036854775807) :
 Does Tryz.prog 253 [.agg (Cells.enc x).toArray,.int .i64 n] G [] (fun v G' Ho=>∃ r:IV,v=.agg (Cells.enc r).toArray∧Big G' r (z*n)∧Ho=[]):=by
 have hn3:(n.natAbs:Int)<pb 3:=by
  have e:pb 3=79228162514264337593543950336:=by unfold pb;decide
  omega
 obtain ⟨n1,a,k1,ca⟩:=x
 refine D0 Tryz.func253 Tryz.ntmps253 fun w=>?_
 refine aM 2 [] ?_
 refine dY 0 fun b1=>?_
 refine aW 1 rfl T.zero89 fun b2=>?_
 refine bP 3 [] ?_
 refine eZ [0,1] [(1,4)] T.mixed [[0,0],[1]] ?_
 refine gC 2 ?_
 refine cX 2 rfl (CN _ _ qX) fun v1 G1 Ho1 hle1 hp=>?_
 obtain ⟨ro,rfl,hro,rfl⟩:=hp
 replace hx:=hx.up hle1
 refine cT 3 ?_
 refine cX 2 rfl (OS _ _ _ _ _ hx hro h1 (aK (gM hro hn3) rI)) fun v2 G2 Ho2 hle2 hp=>?_
 obtain ⟨rm,rfl,hrm,rfl⟩:=hp
 replace hro:=hro.up hle2
 replace hx:=hx.up hle2
 refine cT 4 ?_
 refine aC 1 [1] ?_
 refine jC ?_
 refine iN 2 [] ?_
 refine eH (.inr rfl) (Ho:=Hp.only _ []) rfl (.agg 1 rfl rfl T.agg89) (bN _ _) ?_
 exact ⟨rm,rfl,hrm,rfl⟩
end
section
attribute [local irreducible] qZ pb sG rM p2
def vI (a b:Int) (n:Nat):List Int:=(List.range n).map fun j=>a ^ j*b ^ (n - 1 - j)
theorem KK (G:Imm) (a b:Int) (n:Nat) (hp:tU a b) (hn:n≤15) :
 Does Tryz.prog 210 [.agg #[.int .i64 a,.int .i64 b],.int .i64 n] G [] (fun v G' Ho=>∃ (s:Option Addr) (r:List IV) (c':Nat),v=.tuple #[.slice s r.length c',.int .i64 0]∧Arr G' s r∧Bigs G' r (vI a b n)∧r.length≤c'∧Ho=[]):=by
 refine D0 Tryz.func210 Tryz.ntmps210 fun w=>?_
 have hpn:¬((¬tU a b∨(n:Int)<0)∨16<(n:Int)):=Je
 refine aM 2 [] ?_
 refine dY 0 fun b1=>?_
 refine aL 8 [0] ?_
 refine bS rfl Jc ?_
 refine aP (eK rfl) ?_
 refine aC 1 [] ?_
 apply dA 3 14 17 rfl
 intro hg1
 refine aC 5 [] ?_
 exact eL 3 0
 intro hg1
 refine aC 3 [] ?_
 exact eL 3 0
 refine aC 1 [] ?_
 apply dA 3 18 21 rfl
 intro hg1
 refine aC 5 [] ?_
 exact eL 3 0
 intro hg1
 refine aC 3 [] ?_
 exact eL 3 0
 refine aL 8 [0] ?_
 refine jT (α:=IV) 1 rfl T.sl39 T.el89 rfl rfl qX qX fun b2=>?_
 refine aL 5 [] ?_
 refine cX 2 rfl (CN _ 1 rI) fun v1 G1 Ho1 hle1 hp=>?_
 obtain ⟨ro1,rfl,hro1,rfl⟩:=hp
 refine cX 2 rfl (CN _ 1 rI) fun v2 G2 Ho2 hle2 hp=>?_
 obtain ⟨ro2,rfl,hro2,rfl⟩:=hp
 replace hro1:=hro1.up hle2
 refine aW 2 rfl T.zero89 fun b3=>?_
 refine aW 3 rfl T.zero89 fun b4=>?_
 refine bP 13 [2,3] ?_
 refine kR 6 rfl (show _=Value.slice (some ⟨b2,0,none⟩) (List.replicate n (default:IV)).length n by simp) ?_
 have e2:(List.replicate n (default:IV)).length=n:=aH ..
 refine nB (ι:=Nat×Imm×List IV×IV×(Option Addr×Nat×List Value)) (fun (k,Gx,r,x,(o,d,j))=>([(28,.int .i64 (k:Int)),(6,.slice o r.length d),(27,.int .i64 (↑(List.length (List.replicate (Int.toNat (↑n:Int)) default)):Int)),(8,.pointer (some (Addr.mk b4 0 none))),(7,.pointer (some (Addr.mk b3 0 none))),(5,.int .i64 0),(4,.slice none 0 0),(2,.pointer (some ⟨b1,0,none⟩)),(1,.int .i64 (↑n:Int))],[(1,o.map (·.block),rP 89 r j),(2,some b3,.cells (Cells.enc x).toArray 89),(3,some b4,.cells (List.toArray (Cells.enc ro2)) 89),(0,some b1,.cells #[.int .i64 a,.int .i64 b] 51)])) (fun (k,Gx,r,x,(o,d,j))=>Gx) (fun (k,Gx,r,x,(o,d,j))=>k≤n∧G2.le Gx∧r.length=n∧Bigs Gx r ((List.range n).map fun i=>if i<k then a ^ i else 0)∧Big Gx x (a ^ k)∧OwnA o d r j) (fun (k,Gx,r,x,(o,d,j))=>n - k) ((0,G2,List.replicate n default,ro1,(some ⟨b2,0,none⟩,n,[]))) (⟨aZ _,cC _,aH ..,by have e:(List.range n).map (fun i=>if i<0 then a ^ i else 0)=List.replicate n (0:Int):=by { apply lQ <;> simp };rw [e];exact pZ _ _,by rw [Int.pow_zero];exact hro1,.inr ⟨b2,rfl,by rw [aH];rfl,by omega,by simp only [maxLen];omega⟩⟩) rfl ⟨rfl,rfl,rfl,rfl,rfl,rfl,rfl,rfl,rfl,trivial⟩ ⟨rfl,rfl,rfl,rfl,trivial⟩ fun ⟨k,Gx,r,x,(o,d,j)⟩=>fun hk=>?_
 obtain ⟨hk1,hk2,hk3,hk4,hk5,hob⟩:=hk
 have e1:(List.replicate ((n:Int)).toNat (default:IV)).length=n:=Sd
 have e0:(List.replicate n (default:IV)).length=n:=aH ..
 have hx3:k≤15→((a ^ k).natAbs:Int)<pb 3:=fun h=>by
  have e:pb 3=79228162514264337593543950336:=by unfold pb;decide
  have e2:(a ^ k).natAbs≤16 ^ 15:=by
   rw [pD]
   exact aK (iB (show a.natAbs≤16 by unfold tU at hp;omega) k) (dZ qX h)
  have e3:(16:Nat) ^ 15=1152921504606846976:=rI
  omega
 have hxn:x.n≤536870912:=aK (gM hk5 (hx3 qX)) rI
 refine cZ 6 [] ?_
 refine eX (fun hc1=>?_) fun hc1=>?_
 refine aM 15 [2] ?_
 refine jE (α:=IV) T.sl39 ?_
 rotate_left
 refine cZ 14 [] ?_
 rotate_left
 · refine fS (z:=x) 1 T.size89 rfl rfl rfl qY qX rfl fun h9=>?_
   refine aL 6 [2,0] ?_
   refine cX 4 rfl (KJ _ _ _ a hk5 hxn Sc) fun v3 G3 Ho3 hle3 hp=>?_
   obtain ⟨rt,rfl,hrt,rfl⟩:=hp
   replace hk4:=hk4.up hle3
   replace hk5:=hk5.up hle3
   refine bA 8 [2] ?_
   have hle3':Gx.le G3:=hle3
   refine cS 28 rfl (show _=Value.int .i64 ((k+1:Nat):Int) from rfl) ?_
   refine cS 6 rfl (show _=Value.slice o (r.set (k:Int).toNat x).length d by rw [aI]) ?_
   refine dX ((k+1,G3,r.set (k:Int).toNat x,rt,(o,d,j))) ?_ ?_
   · refine ⟨by omega,bI hk2 hle3',by rw [aI];exact hk3,?_,by rw [Int.pow_succ];exact hrt,h9⟩
     have h8:=hk4.set k hk5
     rw [aN]
     have e:((List.range n).map fun i=>if i<k then a ^ i else 0).set k (a ^ k)=(List.range n).map fun i=>if i<k+1 then a ^ i else 0:=by
      apply lQ
      · simp
      intro i h1 h2
      rw [List.getElem_set]
      simp only [lP,nE]
      by_cases h:k=i
      · subst h;simp
      rw [aF h]
      by_cases h7:i<k
      · rw [aT h7,aT (by omega)]
      rw [aF h7,aF (by omega)]
     rw [e] at h8;exact h8
   show n - (k+1)<n - k
   omega
 have hkn:k=n:=qX
 subst hkn
 have hl1:(List.range k).map (fun i=>if i<k then a ^ i else (0:Int))=(List.range k).map fun m=>if ((m:Nat):Int)≤(k:Int) - 1 then a ^ m else a ^ m*b ^ (k - 1 - m):=by
  apply List.map_congr_left
  intro m hm
  rw [oY] at hm
  rw [aT hm,aT (by omega)]
 rw [hl1] at hk4
 refine Wc.lg (ι:=Int×Imm×List IV×IV) (fun (i,Gy,q,y)=>([(10,.int .i64 i),(6,.slice o q.length d),(8,.pointer (some (Addr.mk b4 0 none))),(5,.int .i64 0),(4,.slice none 0 0),(2,.pointer (some ⟨b1,0,none⟩))],[(1,o.map (·.block),rP 89 q j),(3,some b4,.cells (Cells.enc y).toArray 89),(2,some b3,.cells (List.toArray (Cells.enc x)) 89),(0,some b1,.cells #[.int .i64 a,.int .i64 b] 51)])) (fun (i,Gy,q,y)=>Gy) (fun (i,Gy,q,y)=>-1≤i∧i<k∧Gx.le Gy∧q.length=k∧Bigs Gy q ((List.range k).map fun m=>if ((m:Nat):Int)≤i then a ^ m else a ^ m*b ^ (k - 1 - m))∧Big Gy y (b ^ ((k:Int) - 1 - i).toNat)∧OwnA o d q j) (fun (i,Gy,q,y)=>(i+1).toNat) (((k:Int) - 1,Gx,r,ro2)) (⟨by omega,by omega,cC _,hk3,hk4,by rw [show ((k:Int) - 1 - ((k:Int) - 1)).toNat=0 by omega,Int.pow_zero];exact hro2.up hk2,hob⟩) fun ⟨i,Gy,q,y⟩=>fun hk=>?_
 obtain ⟨hi1,hi2,hi3,hi4,hi5,hi6,hi7⟩:=hk
 rcases Int.lt_or_le i 0 with hi0 | hi0
 · have hi9:i=-1:=qX
   subst hi9
   have hl2:(List.range k).map (fun m=>if ((m:Nat):Int)≤-1 then a ^ m else a ^ m*b ^ (k - 1 - m))=vI a b k:=by
    unfold vI
    apply List.map_congr_left
    intro m hm
    rw [aF (by omega)]
   rw [hl2] at hi5
   refine bQ 21 [0] ?_
   refine eT 1 rfl hi7 fun G8 hle8 hA8=>?_
   refine eJ ?_
   exact ⟨_,_,_,rfl,hA8,hi5.up hle8,hi7.le,rfl⟩
 obtain ⟨m,rfl⟩:∃ m:Nat,i=(m:Int):=⟨i.toNat,by omega⟩
 have hmk:m<k:=qX
 have hbe:Big Gy (q[(m:Int).toNat]?.getD default) (a ^ m):=by
  have h9:=hi5.2 m qX
  rw [cG,gH hmk] at h9
  rw [aN]
  simpa using h9
 have hsm:∀ (c:Int) (e:Nat),-16≤c∧c≤16→e≤15→((c ^ e).natAbs:Int)<pb 3:=fun c e hc he=>by
  have e0:pb 3=79228162514264337593543950336:=by unfold pb;decide
  have e2:(c ^ e).natAbs≤16 ^ 15:=by
   rw [pD]
   exact aK (iB (show c.natAbs≤16 by omega) e) (dZ qX he)
  have e3:(16:Nat) ^ 15=1152921504606846976:=rI
  omega
 have hlq:=gM hbe (hsm a m Sc qX)
 have hly:=gM hi6 (hsm b _ Sc qX)
 have hyn:y.n≤536870912:=aK hly rI
 refine cZ 13 [1] ?_
 refine eZ [0,2,3,1] [(1,9),(3,9),(2,9),(0,9)] T.mixed [[0],[1],[2],[3]] ?_
 refine kC (α:=IV) 4 T.sl39 ?_
 refine gQ 5 [1] rfl (Uj 1 T.agg89 rfl rfl qY qX) ?_
 refine fE [[6,3]] ?_
 refine gC 7 ?_
 refine cX 4 rfl (OS _ _ _ _ _ hbe hi6 (aK hlq rI) (aK hly rI)) fun v3 G3 Ho3 hle3 hp=>?_
 obtain ⟨rm3,rfl,hrm3,rfl⟩:=hp
 replace hi5:=hi5.up hle3
 replace hi6:=hi6.up hle3
 replace hbe:=hbe.up hle3
 refine eU ?_
 refine kC (α:=IV) 8 T.sl39 ?_
 refine gC 9 ?_
 refine fS (z:=rm3) 1 T.size89 rfl rfl rfl qY qX rfl fun h9=>?_
 refine jC ?_
 refine pX 5 [3,0] ?_
 refine cX 4 rfl (KJ _ _ _ b qY hyn Sc) fun v4 G4 Ho4 hle4 hp=>?_
 obtain ⟨rt4,rfl,hrt4,rfl⟩:=hp
 replace hrm3:=hrm3.up hle4
 replace hi5:=hi5.up hle4
 replace hi6:=hi6.up hle4
 replace hbe:=hbe.up hle4
 refine bA 9 [3] ?_
 refine cS 6 rfl (show _=Value.slice o (q.set (m:Int).toNat rm3).length d by rw [aI]) ?_
 refine dX (((m:Int) - 1,_,q.set (m:Int).toNat rm3,rt4)) ?_ ?_
 · refine ⟨by omega,by omega,bI hi3 (bI qY qY),by rw [aI];exact hi4,?_,?_,h9⟩
   · have h8:=hi5.set m hrm3
     rw [aN]
     have e:((List.range k).map fun q=>if ((q:Nat):Int)≤(m:Int) then a ^ q else a ^ q*b ^ (k - 1 - q)).set m (a ^ m*b ^ ((k:Int) - 1 - (m:Int)).toNat)=(List.range k).map fun q=>if ((q:Nat):Int)≤(m:Int) - 1 then a ^ q else a ^ q*b ^ (k - 1 - q):=by
      apply lQ
      · simp
      intro i h1 h2
      rw [List.getElem_set]
      simp only [lP,nE]
      by_cases h:m=i
      · subst h
        rw [aT rfl,aF (by omega)]
        congr 2
        omega
      rw [aF h]
      by_cases h7:(i:Int)≤(m:Int)
      · rw [aT h7,aT (by omega)]
      rw [aF h7,aF (by omega)]
     rw [e] at h8;exact h8
   have e:((k:Int) - 1 - ((m:Int) - 1)).toNat=((k:Int) - 1 - (m:Int)).toNat+1:=qX
   rw [e,Int.pow_succ];exact hrt4
 show ((m:Int) - 1+1).toNat<((m:Int)+1).toNat
 omega
end
section
attribute [local irreducible] qZ pb sG rM p2 tV vI
def BRow (G:Imm) (s:SV) (zs:List Int):Prop:=∃ l:List IV,l.length=s.n∧s.n≤s.c∧Arr G s.a l∧Bigs G l zs
theorem BRow.up {G G':Imm} {s:SV} {zs:List Int} (h:BRow G s zs) (hl:G.le G'):BRow G' s zs:=by
 obtain ⟨l,h1,h2,h3,h4⟩:=h
 exact ⟨l,h1,h2,h3.up hl,h4.up hl⟩
def BGrid (G:Imm) (l:List SV) (rs:List (List Int)):Prop:=l.length=rs.length∧∀ i:Nat,i<l.length→BRow G (l[i]?.getD default) (rs[i]?.getD [])
theorem BGrid.up {G G':Imm} {l:List SV} {rs:List (List Int)} (h:BGrid G l rs) (hl:G.le G'):BGrid G' l rs:=⟨h.1,fun i hi=>(h.2 i hi).up hl⟩
theorem BGrid.nil (G:Imm):BGrid G [] []:=⟨rfl,fun i hi=>by simp at hi⟩
theorem BGrid.snoc {G:Imm} {l:List SV} {rs:List (List Int)} (h:BGrid G l rs) {s:SV} {zs:List Int} (hs:BRow G s zs):BGrid G (l++[s]) (rs++[zs]):=by
 refine ⟨by rw [aQ,aQ,h.1];rfl,fun i hi=>?_⟩
 rw [aQ,List.length_singleton] at hi
 rcases aR i l.length with h1 | h1
 · rw [bE h1,bE (by rw [←h.1];exact h1)];exact h.2 i h1
 have:i=l.length:=qX
 subst this
 rw [cM (aE _),cM (by rw [h.1];exact aE _),mT,h.1,mT]
 exact hs
theorem KM (G:Imm) (a:Option Addr) (c:Nat) (l:List R2) (ha:Arr G a l) (h1:l.length≤1048576) (hc:l.length≤c) (hR:tV l):Does Tryz.prog 226 [.slice a l.length c] G [] (fun v G' Ho=>v=.bool true∧G'=G∧Ho=[]):=
 (PE G a c l ha h1 hc).mono fun v G' Ho _ ⟨b,e1,e2,e3,e4⟩=>⟨by rw [e1,e2.2 hR],e3,e4⟩
def uR (l:List R2):List (List Int):=l.map fun p=>vI p.a p.b l.length
theorem Zm (G:Imm) (a:Option Addr) (c:Nat) (l:List R2) (ha:Arr G a l) (h1:l.length≤1048576) (hc:l.length≤c) (hR:tV l) (hr1:l.length≤15) (hr2:∀ i,i<l.length→GL (l[i]?.getD default)) :
 Does Tryz.prog 211 [.slice a l.length c] G [] (fun v G' Ho=>∃ (s:Option Addr) (r:List SV) (c':Nat),v=.tuple #[.slice s r.length c',.int .i64 0]∧Arr G' s r∧BGrid G' r (uR l)∧r.length≤c'∧Ho=[]):=by
 refine D0 Tryz.func211 Tryz.ntmps211 fun w=>?_
 refine jU 9 (rP 39 ([]:List SV) []) ?_
 refine aM 10 [] ?_
 refine bS rfl (KM _ _ _ l qY qX hc hR) ?_
 refine bP 20 [0] ?_
 refine nB (ι:=Nat×Imm×List SV×(Option Addr×Nat×List Value)) (fun (i,Gx,r,(o,d,j))=>([(14,.int .i64 (i:Int)),(4,.slice o r.length d),(13,.int .i64 (l.length:Int)),(12,.slice a (List.length l) c),(3,.int .i64 0),(2,.slice none 0 0),(0,.slice a (List.length l) c)],[(9,o.map (·.block),rP 39 r j)])) (fun (i,Gx,r,(o,d,j))=>Gx) (fun (i,Gx,r,(o,d,j))=>i≤l.length∧G.le Gx∧r.length=i∧BGrid Gx r ((uR l).take i)∧OwnA o d r j) (fun (i,Gx,r,(o,d,j))=>l.length - i) ((0,G,[],(none,0,[]))) (⟨aZ _,cC _,rfl,by rw [bY];exact BGrid.nil _,gF⟩) rfl ⟨rfl,rfl,rfl,rfl,rfl,rfl,rfl,trivial⟩ ⟨rfl,trivial⟩ fun ⟨i,Gx,r,(o,d,j)⟩=>fun hk=>?_
 obtain ⟨hi1,hi2,hi3,hi4,hi5⟩:=hk
 replace ha:=ha.up hi2
 rcases aR i l.length with hil | hil
 · have hnear:tU (l[(i:Int).toNat]?.getD default).a (l[(i:Int).toNat]?.getD default).b:=(hr2 i hil).1
   refine aM 13 [1] ?_
   refine eO (α:=R2) T.sl22 ?_
   refine nA T.agg51 ?_
   refine aW 10 rfl T.zero51 fun b1=>?_
   refine aL 8 [10,10] ?_
   refine cX 11 rfl (KK _ _ _ l.length hnear qX) fun v1 G1 Ho1 hle1 hp=>?_
   obtain ⟨ps1,pr1,pc1,rfl,hpA1,hpB1,hpL1,rfl⟩:=hp
   replace ha:=ha.up hle1
   refine aL 10 [] ?_
   refine iC (α:=SV) 11 [⟨_,_,_⟩] rfl T.sl86 T.el39 rfl rfl rfl rfl rfl fun b2=>?_
   refine Wl.ap (α:=SV) 9 T.sl86 T.el39 (nN 11 rfl) fun a1 c1 junk1 ho1=>?_
   refine bA 8 [] ?_
   refine cS 14 rfl (show _=Value.int .i64 ((i+1:Nat):Int) from rfl) ?_
   refine dX ((i+1,_,r++[⟨ps1,pr1.length,pc1⟩],(a1,c1,junk1))) ?_ ?_
   · refine ⟨by omega,bI hi2 qY,by rw [aQ,hi3];rfl,?_,ho1⟩
     have e:(uR l).take (i+1)=(uR l).take i++[vI (l[(i:Int).toNat]?.getD default).a (l[(i:Int).toNat]?.getD default).b l.length]:=by
      rw [eE]
      congr 1
      unfold uR
      rw [cG,aN,aD hil];rfl
     rw [e]
     exact (hi4.up qY).snoc ⟨pr1,rfl,hpL1,hpA1,hpB1⟩
   show l.length - (i+1)<l.length - i
   omega
 have hie:i=l.length:=qX
 subst hie
 have e:(uR l).take l.length=uR l:=gK (by unfold uR;rw [bZ];exact aE _)
 rw [e] at hi4
 refine bQ 20 [0] ?_
 refine eT 9 rfl hi5 fun G8 hle8 hA8=>?_
 refine eJ ?_
 exact ⟨_,_,_,rfl,hA8,hi4.up hle8,hi5.le,rfl⟩
end
section
attribute [local irreducible] qZ Iq pb pw sG rM p2 tV vI
def KN (z:Int):Prop:=z.natAbs<18446744073709551616
end
section
attribute [local irreducible] qZ Iq pb pw sG rM p2 tV vI
end
theorem Fu {p:PV} {gs os:List (List Int)} (h:sS p gs=some os):os.length=p.outs.length:=by
 unfold sS at h
 obtain ⟨rs,h1,h2⟩:=gI.1 h
 subst h2
 unfold wU;rw [bZ]
theorem Qq (l:List R2):(uR l).length=l.length:=by unfold uR;rw [bZ]
theorem Jp {a b:Int} {n:Nat} (h:tU a b) (hn:n≤15):(vI a b n).length=n∧Go.Sl.Below 4 (vI a b n):=by
 refine ⟨by unfold vI;rw [bZ,hJ],fun z hz=>?_⟩
 unfold vI at hz
 obtain ⟨k,hk,rfl⟩:=dD.1 hz
 have hk:=oY.1 hk
 have e4:pw 4=18446744073709551616:=by unfold pw;decide
 have e:(a ^ k*b ^ (n - 1 - k)).natAbs≤16 ^ 15:=by
  rw [Int.natAbs_mul,pD,pD]
  refine aK (iI (iB (show a.natAbs≤16 by unfold tU at h;omega) k) (iB (show b.natAbs≤16 by unfold tU at h;omega) _)) ?_
  rw [←nO]
  exact dZ qX qX
 have e3:(16:Nat) ^ 15=1152921504606846976:=rI
 omega
theorem Qr {l:List R2} (h1:l.length≤15) (hr:∀ i,i<l.length→tU (l[i]?.getD default).a (l[i]?.getD default).b):HK 4 l.length (uR l):=fun zs hz=>by
 unfold uR at hz
 obtain ⟨p,hp,rfl⟩:=dD.1 hz
 obtain ⟨i,hi,rfl⟩:=oZ.1 hp
 have:=hr i hi
 rw [aD hi] at this
 have this:tU l[i].a l[i].b:=this
 exact Jp this h1
def tK (n j:Nat):List Int:=(List.replicate n 0).set j 1
theorem Fv (n j m:Nat) (hm:1≤m):Go.Sl.Below m (tK n j):=by
 have h1:pw 1=65536:=by unfold pw;decide
 refine Go.Sl.Below.mono (m:=1) (fun z hz=>?_) hm
 unfold tK at hz
 rcases kB hz with h | h
 · rw [nX h,h1];decide
 rw [h,h1];decide
def sT (p:PV) (l:List R2):Prop:=rJ p=true∧p.ins=l.length∧p.outs.length=l.length∧sS p (uR l)=some ((List.range l.length).map (tK l.length))
instance (p:PV) (l:List R2):Decidable (sT p l):=inferInstanceAs (Decidable (_∧_))
section
attribute [local irreducible] qZ Iq pb pw sG rM p2 vI uR sS rJ
end
theorem KO (G:Imm) (k:Int):Does Tryz.prog 163 [.int .i64 k] G [] (fun v G' Ho=>v=.bool (decide (1≤k∧k≤8))∧G'=G∧Ho=[]):=by
 refine D0 Tryz.func163 Tryz.ntmps163 fun w=>?_
 refine cO ?_
 refine bX rfl ?_
 refine aC 1 [] ?_
 refine cY ?_
 refine bW ?_
 refine cO ?_
 refine bX rfl ?_
 refine aC 3 [] ?_
 apply dT 3 5 8 rfl
 intro hg1
 refine aC 5 [] ?_
 exact eL 3 0
 intro hg1
 refine aC 3 [] ?_
 exact eL 3 0
 refine aC 1 [] ?_
 refine cY ?_
 refine bW ?_
 refine lM ?_
 refine cI ?_
 exact ⟨rfl,rfl,rfl⟩
theorem PI (G:Imm) (a:Option Addr) (c:Nat) (l:List R2) (ha:Arr G a l) (h1:l.length≤1048576):Does Tryz.prog 206 [.slice a l.length c,.func (.func 166) #[] #[]] G [] (fun v G' Ho=>∃ z:Int,v=.int .i64 z∧(0≤z↔∃ i,i<l.length∧((l[i]?.getD default).a=0∧(l[i]?.getD default).b=0))∧G'=G∧Ho=[]):=by
 refine D0 Tryz.func206 Tryz.ntmps206 fun w=>?_
 refine cO ?_
 refine bX rfl ?_
 refine aC 1 [] ?_
 refine cY ?_
 refine bW ?_
 refine cO ?_
 refine cO ?_
 refine bX rfl ?_
 refine aC 3 [] ?_
 refine cY ?_
 refine bW ?_
 refine Wc.block ?_
 refine iE (ι:=Nat) (fun j=>([(8,.int .i64 (j:Int)),(0,.slice a l.length c),(1,.func (.func 166) #[] #[]),(7,.int .i64 (l.length:Int))],[])) (fun j=>j≤l.length∧∀ i,i<j→¬((l[i]?.getD default).a=0∧(l[i]?.getD default).b=0)) (fun j=>l.length - j) (0) (⟨aZ _,fun j' h=>absurd h qX⟩) fun j=>fun hk=>?_
 obtain ⟨hj,hno⟩:=hk
 refine cO ?_
 refine bX rfl ?_
 refine aC 1 [] ?_
 refine cY ?_
 refine bW ?_
 refine cO ?_
 refine eX (fun hc1=>?_) fun hc1=>?_
 refine kF ?_
 refine bW ?_
 refine cO ?_
 refine Wc.block ?_
 refine cO ?_
 refine bX rfl ?_
 refine aC 2 [] ?_
 refine cY ?_
 refine bW ?_
 refine cO ?_
 refine bX rfl ?_
 refine aC 3 [] ?_
 refine eO (α:=R2) T.sl22 ?_
 refine nA T.agg51 ?_
 rotate_left
 refine Wc.exit ?_
 refine pL ?_
 refine pL ?_
 refine Ar.here ?_
 refine bW ?_
 refine cO ?_
 refine bX rfl ?_
 refine aC 1 [] ?_
 refine cY ?_
 refine bW ?_
 refine lM ?_
 refine cI ?_
 rotate_left
 · refine fX (fst:=[]) (cap:=[]) 2 rfl T.fn166 rfl rfl (KG _ (l[(j:Int).toNat]?.getD default).a (l[(j:Int).toNat]?.getD default).b) (sE trivial) fun v1 G1 Ho1 hle1 hp=>?_
   obtain ⟨rfl,rfl,rfl⟩:=hp
   refine cY ?_
   refine bW ?_
   refine eX (fun hc2=>?_) fun hc2=>?_
   refine cO ?_
   refine bX rfl ?_
   refine aC 2 [] ?_
   refine cY ?_
   refine bW ?_
   refine lM ?_
   refine Bp ?_
   refine oN ?_
   refine oN ?_
   refine Bp ?_
   refine oN ?_
   refine cI ?_
   rotate_left
   refine kF ?_
   refine qN ?_
   refine bW ?_
   refine bX rfl ?_
   refine aC 2 [] ?_
   refine cY ?_
   rotate_left
   · exact ⟨(j:Int),rfl,⟨fun _=>⟨j,by omega,hc2⟩,fun _=>by omega⟩,rfl,rfl⟩
   refine cS 8 rfl (show _=Value.int .i64 ((j+1:Nat):Int) from rfl) ?_
   refine dX (j+1) ?_ ?_
   · refine ⟨by omega,fun i' h2=>?_⟩
     rcases aR i' j with h | h
     · exact hno i' h
     have e:i'=j:=qX
     subst e;exact hc2
   omega
 exact ⟨-1,rfl,⟨fun h=>absurd h qX,fun ⟨i,hi,h⟩=>absurd h (hno i qX)⟩,rfl,rfl⟩
theorem PJ (G:Imm) (a:Option Addr) (c:Nat) (l:List R2) (ha:Arr G a l) (h1:l.length≤1048576):Does Tryz.prog 165 [.slice a l.length c,.func (.func 166) #[] #[]] G [] (fun v G' Ho=>∃ b:Bool,v=.bool b∧(b=true↔∃ i,i<l.length∧((l[i]?.getD default).a=0∧(l[i]?.getD default).b=0))∧G'=G∧Ho=[]):=by
 refine D0 Tryz.func165 Tryz.ntmps165 fun w=>?_
 refine cO ?_
 refine bX rfl ?_
 refine aC 1 [] ?_
 refine cY ?_
 refine bW ?_
 refine cO ?_
 refine bX rfl ?_
 refine aC 2 [] ?_
 refine cX 0 rfl (PI _ _ _ _ qY qX) fun v1 G1 Ho1 hle1 hp=>?_
 obtain ⟨tz1,rfl,htz1,rfl,rfl⟩:=hp
 refine aC 2 [] ?_
 refine cY ?_
 refine bW ?_
 refine lM ?_
 refine cI ?_
 exact ⟨decide (0≤tz1),rfl,by rw [aS];exact htz1,rfl,rfl⟩
theorem c25 (G:Imm) (a:Option Addr) (c:Nat) (l:List R2) (ha:Arr G a l) (hl:l.length≤1048576) :
 Does Tryz.prog 25 [.slice a l.length c] G [] (fun v G' Ho=>∃ s d j,v=.slice s l.length d∧OwnA s d l j∧G'=G∧Ho=[(0,s.map (·.block),rP 51 l j)]):=by
 refine D0 Tryz.func25 Tryz.ntmps25 fun w=>?_
 by_cases hne:a=none
 · subst hne
   have hl0:l=[]:=by
    rcases ha.2 with h0 | ⟨_,_,h,_⟩
    · exact List.length_eq_zero_iff.mp h0
    cases h
   subst hl0
   refine jU 0 (rP 51 ([]:List R2) []) ?_
   refine aM 9 [] ?_
   refine aP (fA T.sl22 rfl rfl) ?_
   refine bP 2 [] ?_
   refine eX (fun hc1=>?_) fun hc1=>?_
   refine bQ 7 [] ?_
   rotate_left
   refine aM 4 [] ?_
   refine pM 1 rfl T.sl22 fun b1=>?_
   refine aC 1 [] ?_
   rotate_left
   refine eH (.inr rfl) (Ho:=[(0,none,rP 51 ([]:List R2) [])]) rfl (.tmp rfl) ⟨rfl,trivial⟩ ?_
   · exact ⟨none,0,[],rfl,gF,rfl,rfl⟩
   exact absurd rfl hc1
 refine aM 9 [] ?_
 refine aP (fA T.sl22 rfl rfl) ?_
 refine aL 7 [0] ?_
 refine pM 0 rfl T.sl22 fun b1=>?_
 refine aC 1 [] ?_
 refine mZ 0 (rP 51 ([]:List R2) []) rfl rfl ?_
 refine lL (α:=R2) (xs:=[]) (ys:=l) (junk:=[]) 0 rfl T.sl22 T.el51 rfl rfl rfl (.inr ⟨b1,rfl,rfl,aE _,aZ _⟩) (oG ha) (by rw [cE];omega) Xd fun a1 c1 junk1 ho1=>?_
 rw [fD] at ho1 ⊢
 refine bA 4 [] ?_
 refine eH (.inr rfl) (Ho:=[(0,a1.map (·.block),rP 51 l junk1)]) rfl (.tmp rfl) ⟨rfl,trivial⟩ ?_
 exact ⟨a1,c1,junk1,rfl,ho1,rfl,rfl⟩
structure PH where
 ins:Int
 regs:Int
 ac:Option Addr
 cn:Nat
 cc:Nat
 ao:Option Addr
 on:Nat
 oc:Nat
instance:Inhabited PH:=⟨⟨0,0,none,0,0,none,0,0⟩⟩
instance:Cells PH:=⟨4,fun x=>[.int .i64 x.ins,.int .i64 x.regs,.slice x.ac x.cn x.cc,.slice x.ao x.on x.oc],fun _=>rfl,fun _=>rfl⟩
def Dd (pn:Nat) (l:List PH):Bool:=l.any (fun p=>decide (80<p.regs)) || decide (600<(l.map (·.cn)).sum) || decide (15<pn)
theorem Zn {pn:Nat} {l:List PH} {k:Nat} (hk:k<l.length) (h:80<(l[k]?.getD default).regs):Dd pn l=true:=by
 have h2:l.any (fun p=>decide (80<p.regs))=true:=by
  rw [List.any_eq_true]
  rw [aD hk,iH] at h
  exact ⟨l[k],eR hk,cR h⟩
 unfold Dd
 rw [h2]
 rfl
theorem EM {pn:Nat} {l:List PH} (h:∀ p∈l,¬80<p.regs):Dd pn l=decide (600<(((l.map (·.cn)).sum:Nat):Int)∨15<(pn:Int)):=by
 have h2:l.any (fun p=>decide (80<p.regs))=false:=by
  rw [List.any_eq_false]
  intro p hp
  simpa using h p hp
 unfold Dd
 rw [h2,Bool.false_or]
 rw [Bool.eq_iff_iff]
 simp only [kI,aS]
 omega
theorem Zo (x y z:PH) {C:Nat} (hx:x.cn≤C) (hy:y.cn≤C) (hz:z.cn≤C) (k:Nat):(([x,y,z]:List PH)[k]?.getD default).cn≤C:=by
 match k with
 | 0=>exact hx
 | 1=>exact hy
 | 2=>exact hz
 | k+3=>exact aZ _
theorem Vh (x y z:PH) {C:Nat} (hx:x.cn≤C) (hy:y.cn≤C) (hz:z.cn≤C) (k:Nat) (hk:k≤3):((([x,y,z]:List PH).take k).map (·.cn)).sum≤3*C:=by
 match k,hk with
 | 0,_=>exact aZ _
 | 1,_=>show x.cn+0≤3*C;omega
 | 2,_=>show x.cn+(y.cn+0)≤3*C;omega
 | 3,_=>show x.cn+(y.cn+(z.cn+0))≤3*C;omega
theorem Qs (x y z:PH) (k:Nat) (hk:k<3):((([x,y,z]:List PH).take (k+1)).map (·.cn)).sum=((([x,y,z]:List PH).take k).map (·.cn)).sum+(([x,y,z]:List PH)[k]?.getD default).cn:=by
 match k,hk with
 | 0,_=>show x.cn+0=0+x.cn;omega
 | 1,_=>show x.cn+(y.cn+0)=x.cn+0+y.cn;omega
 | 2,_=>show x.cn+(y.cn+(z.cn+0))=x.cn+(y.cn+0)+z.cn;omega
theorem Vi (x y z:PH) {q:PH→Prop} (k:Nat) (hk:k<3) (h:∀ p∈([x,y,z]:List PH).take k,q p) (h1:q (([x,y,z]:List PH)[k]?.getD default)):∀ p∈([x,y,z]:List PH).take (k+1),q p:=by
 intro p hp
 rw [eE,eD] at hp
 rcases hp with hp | hp
 · exact h p hp
 have hk':k<([x,y,z]:List PH).length:=hk
 rw [aD hk'] at hp h1
 have e:p=([x,y,z]:List PH)[k]:=by simpa using hp
 rw [e];exact h1
theorem c17 (G:Imm) (k1 k2:Int) (pa:Option Addr) (pn pc:Nat) (x y z:PH) (hx:x.cn≤1099511627776) (hy:y.cn≤1099511627776) (hz:z.cn≤1099511627776) :
 Does Tryz.prog 17 [.agg #[.int .i64 k1,.int .i64 k2,.slice pa pn pc,.int .i64 x.ins,.int .i64 x.regs,.slice x.ac x.cn x.cc,.slice x.ao x.on x.oc,.int .i64 y.ins,.int .i64 y.regs,.slice y.ac y.cn y.cc,.slice y.ao y.on y.oc,.int .i64 z.ins,.int .i64 z.regs,.slice z.ac z.cn z.cc,.slice z.ao z.on z.oc]] G [] (fun v G' Ho=>v=.bool (Dd pn [x,y,z])∧G'=G∧Ho=[]):=by
 refine D0 Tryz.func17 Tryz.ntmps17 fun w=>?_
 refine aM 2 [] ?_
 refine dY 0 fun b1=>?_
 refine aL 12 [] ?_
 refine aP (fM 0 T.agg26 rfl rfl rfl rfl) ?_
 refine aC 1 [] ?_
 refine aP (fM 0 T.agg26 rfl rfl rfl rfl) ?_
 refine aC 1 [] ?_
 refine aP (fM 0 T.agg26 rfl rfl rfl rfl) ?_
 refine iC (α:=PH) 1 [⟨_,_,_,_,_,_,_,_⟩,⟨_,_,_,_,_,_,_,_⟩,⟨_,_,_,_,_,_,_,_⟩] rfl T.sl122 T.el26 rfl rfl rfl rfl rfl fun b2=>?_
 refine bP 5 [] ?_
 refine iE (ι:=Nat×Nat) (fun (k,n)=>([(14,.int .i64 (k:Int)),(3,.int .i64 (n:Int)),(13,.int .i64 (↑(List.length [PH.mk (PH.ins x) (PH.regs x) (PH.ac x) (PH.cn x) (PH.cc x) (PH.ao x) (PH.on x) (PH.oc x),PH.mk (PH.ins y) (PH.regs y) (PH.ac y) (PH.cn y) (PH.cc y) (PH.ao y) (PH.on y) (PH.oc y),PH.mk (PH.ins z) (PH.regs z) (PH.ac z) (PH.cn z) (PH.cc z) (PH.ao z) (PH.on z) (PH.oc z)]):Int)),(12,.slice (some (Addr.mk b2 0 none)) (List.length [PH.mk (PH.ins x) (PH.regs x) (PH.ac x) (PH.cn x) (PH.cc x) (PH.ao x) (PH.on x) (PH.oc x),PH.mk (PH.ins y) (PH.regs y) (PH.ac y) (PH.cn y) (PH.cc y) (PH.ao y) (PH.on y) (PH.oc y),PH.mk (PH.ins z) (PH.regs z) (PH.ac z) (PH.cn z) (PH.cc z) (PH.ao z) (PH.on z) (PH.oc z)]) 3),(1,.pointer (some ⟨b1,0,none⟩))],[(1,some b2,rP (α:=PH) 26 ([PH.mk (PH.ins x) (PH.regs x) (PH.ac x) (PH.cn x) (PH.cc x) (PH.ao x) (PH.on x) (PH.oc x),PH.mk (PH.ins y) (PH.regs y) (PH.ac y) (PH.cn y) (PH.cc y) (PH.ao y) (PH.on y) (PH.oc y),PH.mk (PH.ins z) (PH.regs z) (PH.ac z) (PH.cn z) (PH.cc z) (PH.ao z) (PH.on z) (PH.oc z)]) ([])),(0,some b1,.cells #[.int .i64 k1,.int .i64 k2,.slice pa pn pc,.int .i64 (PH.ins x),.int .i64 (PH.regs x),.slice (PH.ac x) (PH.cn x) (PH.cc x),.slice (PH.ao x) (PH.on x) (PH.oc x),.int .i64 (PH.ins y),.int .i64 (PH.regs y),.slice (PH.ac y) (PH.cn y) (PH.cc y),.slice (PH.ao y) (PH.on y) (PH.oc y),.int .i64 (PH.ins z),.int .i64 (PH.regs z),.slice (PH.ac z) (PH.cn z) (PH.cc z),.slice (PH.ao z) (PH.on z) (PH.oc z)] 28)])) (fun (k,n)=>k≤3∧n=((([x,y,z]:List PH).take k).map (·.cn)).sum∧∀ p∈([x,y,z]:List PH).take k,¬80<p.regs) (fun (k,n)=>3 - k) ((0,0)) (⟨aZ _,rfl,fun p h=>absurd h rV⟩) fun ⟨k,n⟩=>fun hk=>?_
 obtain ⟨hk3,hn,hno⟩:=hk
 refine cZ 6 [] ?_
 refine eX (fun hc1=>?_) fun hc1=>?_
 refine aM 6 [] ?_
 refine aP (cL T.sl122 rfl rfl qX) ?_
 rotate_left
 refine aM 10 [] ?_
 apply dA 5 29 34 rfl
 intro hg1
 refine aC 9 [0] ?_
 exact eL 5 0
 intro hg1
 refine aC 5 [] ?_
 exact eL 5 0
 refine bA 4 [] ?_
 refine cI ?_
 rotate_left
 · have hk2:k<3:=by
    have h:(k:Int)<3:=hc1
    omega
   have hcn:=Zo x y z hx hy hz (k:Int).toNat
   have hs3:n≤3*1099511627776:=by rw [hn];exact Vh x y z hx hy hz k hk3
   refine aP (Jg (α:=PH) (xs:=[x,y,z]) (junk:=[]) 1 T.agg26 rfl rfl (show 0≤(k:Int)∧(k:Int)<(([x,y,z]:List PH).length:Int) from ⟨by omega,hc1⟩)) ?_
   refine aW 2 rfl T.zero26 fun b3=>?_
   refine bP 20 [2,2,2] ?_
   refine eX (fun hc2=>?_) fun hc2=>?_
   refine bQ 11 [] ?_
   refine cI ?_
   rotate_left
   refine bQ 7 [] ?_
   rotate_left
   · exact ⟨congrArg Value.bool (Zn (l:=[x,y,z]) (k:=k) hk2 hc2).symm,rfl,rfl⟩
   refine cS 14 rfl (show _=Value.int .i64 ((k+1:Nat):Int) from rfl) ?_
   refine cS 3 rfl (show _=Value.int .i64 ((n+([x,y,z][(k:Int).toNat]?.getD default).cn:Nat):Int) from rfl) ?_
   refine dX ((k+1,n+([x,y,z][(k:Int).toNat]?.getD default).cn)) ?_ ?_
   · exact ⟨hk2,by rw [hn];exact (Qs x y z k hk2).symm,Vi x y z (q:=fun p=>¬80<p.regs) k hk2 hno hc2⟩
   show 3 - (k+1)<3 - k
   omega
 have hk2:k=3:=by
  have h:¬(k:Int)<3:=hc1
  omega
 subst hk2
 rw [show Dd pn [x,y,z]=_ from EM (pn:=pn) (l:=[x,y,z]) hno,hn]
 exact ⟨rfl,rfl,rfl⟩
def uN (k:Nat):List (List Int):=(List.range k).map (tK k)
theorem Fw (k:Nat):(uN k).length=k:=by unfold uN;rw [bZ,hJ]
theorem Vj (k j:Nat):(tK k j).length=k:=by unfold tK;rw [aI,aH]
theorem Oc (k:Nat):HK 4 k (uN k):=fun zs hz=>by
 unfold uN at hz
 obtain ⟨j,hj,rfl⟩:=dD.1 hz
 exact ⟨Vj k j,Fv k j 4 qX⟩
def Od (p:PV):Prop:=∀ i∈p.code,¬(i.op=6∨i.op=8)
instance (p:PV):Decidable (Od p):=inferInstanceAs (Decidable (∀ i∈p.code,_))
theorem Zp {i:Sl.Instr} (rs:List (List Int)) (h:¬(i.op=6∨i.op=8)):∃ x,yT i rs=some x:=by
 unfold yT
 by_cases h1:i.op=2
 · exact ⟨_,aT h1⟩
 by_cases h2:i.op=3
 · exact ⟨_,by simp only [h1,dO];rw [aT h2]⟩
 by_cases h3:i.op=4
 · exact ⟨_,by simp only [h1,h2,dO];rw [aT h3]⟩
 by_cases h4:i.op=5∨i.op=7
 · exact ⟨_,by simp only [h1,h2,h3,dO];rw [aT h4]⟩
 exact ⟨_,by simp only [h1,h2,h3,h4,h,dO];rfl⟩
theorem Fx {p:PV} (h:Od p) (gs:List (List Int)):∀ k:Nat,k≤p.code.length→∃ rs,wP p gs k=some rs
 | 0,_=>⟨_,rfl⟩
 | k+1,hk=>by
   obtain ⟨rs,h1⟩:=Fx h gs k qX
   have hm:p.code[(k:Int).toNat]?.getD default∈p.code:=by
    rw [aN,aD qX];exact eR _
   obtain ⟨x,h2⟩:=Zp rs (h _ hm)
   exact ⟨_,Fs (x:=rs) h1 h2⟩
theorem Ls {p:PV} (h:Od p) (gs:List (List Int)):∃ os,sS p gs=some os:=by
 obtain ⟨rs,h1⟩:=Fx h gs _ (aE _)
 exact ⟨_,by unfold sS;rw [h1];rfl⟩
def tQ (p:PV) (k:Int) (l:List R2):Prop:=p.ins=k∧p.outs.length=l.length∧Od p∧sS p (uN k.toNat)=some (l.map fun q=>vI q.a q.b k.toNat)
instance (p:PV) (k:Int) (l:List R2):Decidable (tQ p k l):=inferInstanceAs (Decidable (_∧_))
theorem Zq {os:List (List Int)} {l:List R2} {k:Nat} (hl:os.length=l.length):(os=l.map fun q=>vI q.a q.b k)↔∀ t:Nat,t<l.length→os[t]?.getD []=vI (l[t]?.getD default).a (l[t]?.getD default).b k:=by
 constructor
 · intro h t ht
   rw [h,cG,aD ht];rfl
 intro h
 refine eW fun i=>?_
 rcases aR i l.length with h1 | h1
 · have:=h i h1
   rw [aD qX,iH] at this
   rw [aD qX,cG,this,aD h1];rfl
 rw [cJ qX,cJ (by rw [bZ];omega)]
theorem EN {xs ys:List Int} {k:Nat} (h1:xs.length=k) (h2:ys.length=k):xs=ys↔∀ t:Nat,t<k→xs[t]?.getD 0=ys[t]?.getD 0:=by
 constructor
 · intro h t _;rw [h]
 intro h
 refine eW fun i=>?_
 rcases aR i k with h3 | h3
 · have:=h i h3
   rw [aD qX,aD qX] at this ⊢
   exact congrArg some this
 rw [cJ qX,cJ qX]
theorem Oe (a b:Int) (k:Nat):(vI a b k).length=k:=by unfold vI;rw [bZ,hJ]
def sN (k:Int):Prop:=1≤k∧k≤8
instance (k:Int):Decidable (sN k):=inferInstanceAs (Decidable (_∧_))
def An (l:List R2):Prop:=∀ i:Nat,i<l.length→tU (l[i]?.getD default).a (l[i]?.getD default).b
def wC (l:List R2):Prop:=∃ i:Nat,i<l.length∧((l[i]?.getD default).a=0∧(l[i]?.getD default).b=0)
open Classical in
def sD (k1 k2:Int) (l:List R2):Int:=
 if ¬(sN k1∧sN k2) then 70 else if ¬An l then 70 else if ¬((l.length:Int)=k1+k2 - 1) then 71 else if wC l∨Twin l then 71 else 0
theorem Ao {k1 k2:Int} {l:List R2} (h:¬(sN k1∧sN k2)):sD k1 k2 l=70:=by unfold sD;rw [aT h]
theorem Of {k1 k2:Int} {l:List R2} (h:¬An l):sD k1 k2 l=70:=by
 unfold sD
 by_cases h1:¬(sN k1∧sN k2)
 · rw [aT h1]
 rw [aF h1,aT h]
theorem Jq {k1 k2:Int} {l:List R2} (h1:sN k1∧sN k2) (h2:An l) (h:¬((l.length:Int)=k1+k2 - 1)):sD k1 k2 l=71:=by
 unfold sD;rw [aF (fun h=>h h1),aF (fun h=>h h2),aT h]
theorem Ca {k1 k2:Int} {l:List R2} (h1:sN k1∧sN k2) (h2:An l) (h:wC l∨Twin l):sD k1 k2 l=71:=by
 unfold sD;rw [aF (fun h=>h h1),aF (fun h=>h h2)]
 by_cases h3:¬((l.length:Int)=k1+k2 - 1)
 · rw [aT h3]
 rw [aF h3,aT h]
theorem Zr {k1 k2:Int} {l:List R2} (h1:sN k1∧sN k2) (h2:An l) (h3:(l.length:Int)=k1+k2 - 1) (h:¬(wC l∨Twin l)):sD k1 k2 l=0:=by
 unfold sD;rw [aF (fun h=>h h1),aF (fun h=>h h2),aF (fun h=>h h3),aF h]
theorem De {k1 k2:Int} {l:List R2} (h:sD k1 k2 l=0):sN k1∧sN k2∧(l.length:Int)=k1+k2 - 1∧tV l:=by
 by_cases h1:sN k1∧sN k2
 · by_cases h2:An l
   · by_cases h3:(l.length:Int)=k1+k2 - 1
     · by_cases h4:wC l∨Twin l
       · rw [Ca h1 h2 h4] at h;omega
       refine ⟨h1.1,h1.2,h3,?_,?_,fun i hi=>⟨h2 i hi,fun h5=>h4 (.inl ⟨i,hi,h5⟩)⟩,fun h5=>h4 (.inr h5)⟩
       · have:=h1.1.1;have:=h1.2.1;omega
       have:=h1.1.2;have:=h1.2.2;omega
     rw [Jq h1 h2 h3] at h;omega
   rw [Of h2] at h;omega
 rw [Ao h1] at h;omega
open Classical in
def sJ (k1 k2:Int) (l:List R2) (x y z:PV):Int×Int:=
 if ¬sD k1 k2 l=0 then (0,sD k1 k2 l)
 else if ¬rJ x=true then (1,80) else if ¬tQ x k1 l then (1,180)
 else if ¬rJ y=true then (2,80) else if ¬tQ y k2 l then (2,180)
 else if ¬rJ z=true then (3,80) else if ¬sT z l then (3,180) else (0,0)
end Go.Proofs.YtngphgeghfdjbaaGreatDoor
namespace Go.Proofs.YtngphgeghfdjbaaGreatDoor
open Go Go.Sl Go.ChangeShapes Go.WideShapes Go.RowKit Go.Joins
theorem Zs {H:Type} (d:DataW H):1≤Rows.uptoBulk d:=by
 cases d with
 | lit l=>cases l <;> simp [Rows.uptoBulk]
 | nil=>simp [Rows.uptoBulk]
 | ptr d=>simp [Rows.uptoBulk]
 | slice elems spare=>simp [Rows.uptoBulk]
 | agg parts=>simp [Rows.uptoBulk]
 | iface t d=>simp [Rows.uptoBulk]
 | map rN=>simp [Rows.uptoBulk]
 | held h=>simp [Rows.uptoBulk]
theorem Zt {H:Type} (l:List (DataW H)):l.length≤Rows.uptoBulkAll l:=by
 induction l with
 | nil=>simp [Rows.uptoBulkAll]
 | cons x r ih=>have:=Zs x;simp only [Rows.uptoBulkAll,bH];omega
theorem zH {H:Type} (l r:List (DataW H)):l.length≤Rows.uptoBulk (.slice l r):=by
 have:=Zt l
 simp only [Rows.uptoBulk];omega
theorem Fy:Tryz.prog.underlying 3=some (.int .i64):=rD
theorem zI:Tryz.prog.cellsOf 3=1:=rD
theorem EO:Tryz.prog.cellsOf 22=1:=rD
theorem EP:Tryz.prog.cellsOf 23=1:=rD
theorem EQ:Tryz.prog.cellsOf 24=1:=rD
theorem Lt:Tryz.prog.cellsOf 26=4:=rD
theorem ER:Tryz.prog.cellsOf 28=15:=rD
theorem Sr:Tryz.prog.cellsOf 51=2:=rD
theorem Ss:Tryz.prog.cellsOf 211=5:=rD
section
variable {H:Type} {enc:TypeId×Value→H}
theorem HN {P:Program} {W:World} {E Ti:TypeId} {f0 f1:Field} (hi:P.underlying Ti=some (.int .i64)) (hs:P.underlying E=some (.struct #[f0,f1]))
 (h0:f0.type=Ti∧f0.offset=0) (h1:f1.type=Ti∧f1.offset=1) (hc:P.cellsOf Ti=1) (hcE:P.cellsOf E=2) :
 NP (α:=R2) enc P W E (fun _ _=>True):=fun n cs x h=>by
 obtain ⟨xs,m,_,_,hl,hxl,hf⟩:=nS hs h
 rw [hcE] at hl
 match cs,hl with
 | [v0,v1],_ =>
   have hxl':xs.length=2:=hxl
   match xs,hxl' with
   | [y0,y1],_ =>
     have k0:=hf 0 f0 rfl;have k1:=hf 1 f1 rfl
     rw [h0.1,h0.2,hc] at k0;rw [h1.1,h1.2,hc] at k1
     obtain ⟨a0,e0,_,_⟩:=fB hi k0
     obtain ⟨a1,e1,_,_⟩:=fB hi k1
     simp at e0 e1
     exact ⟨⟨a0,a1⟩,by rw [e0,e1];rfl,trivial⟩
theorem Vk {W:World} {n:Nat} {v:Value} {d:DataW H×List MemPlace} (h:DataW.trod enc Tryz.prog W 0 (fun _=>true) true n 22 [v]=some d) :
 ∃ (a:Option Addr) (c:Nat) (l:List R2),v=.slice a l.length c∧Arr (uQ W) a l∧l.length≤c∧l.length≤Rows.uptoBulk d.1:=by
 obtain ⟨a,c,xs,e,hA,hl,hd⟩:=Fh (α:=R2) Tryz.underlying22 Sr rI (HN Fy Tryz.underlying51 ⟨rfl,rfl⟩ ⟨rfl,rfl⟩ zI Sr) h
 simp only [gE,and_true] at e
 refine ⟨a,c,xs,e,hA,hl,?_⟩
 rcases hd with ⟨_,rfl⟩ | ⟨l,r,e,hl,_⟩
 · exact aZ _
 rw [e,←hl];exact zH l r
theorem zJ {W:World} {n:Nat} {v0 v1 v2 v3:Value} {y:DataW H×List MemPlace} (h:DataW.trod enc Tryz.prog W 0 (fun _=>true) true n 26 [v0,v1,v2,v3]=some y) :
 ∃ (p:PV) (ac ao:Option Addr) (cc co:Nat),[v0,v1,v2,v3]=[.int .i64 p.ins,.int .i64 p.regs,.slice ac p.code.length cc,.slice ao p.outs.length co]∧Arr (uQ W) ac p.code∧Arr (uQ W) ao p.outs∧
  p.code.length≤Rows.uptoBulk y.1∧p.outs.length≤Rows.uptoBulk y.1:=by
 obtain ⟨xs,m,_,e,hl,hxl,hf⟩:=nS Tryz.underlying26 h
 have hxl':xs.length=4:=hxl
 match xs,hxl' with
 | [y0,y1,y2,y3],_ =>
   have h0:DataW.trod enc Tryz.prog W 0 (fun _=>true) true m 3 (List.take (Tryz.prog.cellsOf 3) (List.drop 0 [v0,v1,v2,v3]))=some y0:=hf 0 _ rfl
   have h1:DataW.trod enc Tryz.prog W 0 (fun _=>true) true m 3 (List.take (Tryz.prog.cellsOf 3) (List.drop 1 [v0,v1,v2,v3]))=some y1:=hf 1 _ rfl
   have h2:DataW.trod enc Tryz.prog W 0 (fun _=>true) true m 23 (List.take (Tryz.prog.cellsOf 23) (List.drop 2 [v0,v1,v2,v3]))=some y2:=hf 2 _ rfl
   have h3:DataW.trod enc Tryz.prog W 0 (fun _=>true) true m 24 (List.take (Tryz.prog.cellsOf 24) (List.drop 3 [v0,v1,v2,v3]))=some y3:=hf 3 _ rfl
   rw [zI] at h0
   rw [zI] at h1
   rw [EP] at h2
   rw [EQ] at h3
   obtain ⟨k0,e0,_,_⟩:=fB Fy h0
   obtain ⟨k1,e1,_,_⟩:=fB Fy h1
   obtain ⟨a2,c2,xs,e2,ha2,hl2,hd2⟩:=Fh (α:=Sl.Instr) Tryz.underlying23 Ss rI (Uv Fy Tryz.underlying211 ⟨rfl,rfl⟩ ⟨rfl,rfl⟩ ⟨rfl,rfl⟩ ⟨rfl,rfl⟩ ⟨rfl,rfl⟩ zI Ss) h2
   obtain ⟨a3,c3,ys,e3,ha3,hl3,hd3⟩:=Fh (α:=Int) Tryz.underlying24 zI rI (DS Fy) h3
   replace e0:[v0]=[.int .i64 k0]:=e0
   replace e1:[v1]=[.int .i64 k1]:=e1
   replace e2:[v2]=[.slice a2 xs.length c2]:=e2
   replace e3:[v3]=[.slice a3 ys.length c3]:=e3
   simp only [gE,and_true] at e0 e1 e2 e3
   subst e0 e1 e2 e3
   have b2:xs.length≤Rows.uptoBulk y2.1:=by
    rcases hd2 with ⟨_,rfl⟩ | ⟨l,r,e,hl,_⟩
    · exact aZ _
    rw [e,←hl];exact zH l r
   have b3:ys.length≤Rows.uptoBulk y3.1:=by
    rcases hd3 with ⟨_,rfl⟩ | ⟨l,r,e,hl,_⟩
    · exact aZ _
    rw [e,←hl];exact zH l r
   refine ⟨⟨k0,k1,xs,ys⟩,a2,a3,c2,c3,rfl,ha2,ha3,?_,?_⟩
   · rw [e]
     simp only [Rows.uptoBulk,Rows.uptoBulkAll,bK,iQ]
     omega
   rw [e]
   simp only [Rows.uptoBulk,Rows.uptoBulkAll,bK,iQ]
   omega
theorem Vm {W:World} {r:Reach} {b0:Nat} {v:Value} {d:DataW H} {ps:List MemPlace} (hv:Value.okWide Tryz.prog W r b0 28 v) (h:DataW.Trod enc Tryz.prog W 0 (fun _=>true) true 28 v d ps) :
 ∃ (k1 k2:Int) (pl:List R2) (pa:Option Addr) (pc:Nat) (xp yp zp:PV) (xac xao yac yao zac zao:Option Addr) (xcc xoc ycc yoc zcc zoc:Nat),
  v=.agg #[.int .i64 k1,.int .i64 k2,.slice pa pl.length pc,.int .i64 xp.ins,.int .i64 xp.regs,.slice xac xp.code.length xcc,.slice xao xp.outs.length xoc,.int .i64 yp.ins,.int .i64 yp.regs,.slice yac yp.code.length ycc,.slice yao yp.outs.length yoc,.int .i64 zp.ins,.int .i64 zp.regs,.slice zac zp.code.length zcc,.slice zao zp.outs.length zoc]∧Arr (uQ W) pa pl∧pl.length≤pc∧pl.length≤Rows.uptoBulk d∧
  Arr (uQ W) xac xp.code∧Arr (uQ W) xao xp.outs∧xp.code.length≤Rows.uptoBulk d∧xp.outs.length≤Rows.uptoBulk d∧Arr (uQ W) yac yp.code∧Arr (uQ W) yao yp.outs∧yp.code.length≤Rows.uptoBulk d∧yp.outs.length≤Rows.uptoBulk d∧Arr (uQ W) zac zp.code∧Arr (uQ W) zao zp.outs∧zp.code.length≤Rows.uptoBulk d∧zp.outs.length≤Rows.uptoBulk d:=by
 obtain ⟨cs,rfl,hsz⟩:=okWide_struct Tryz.underlying28 hv
 obtain ⟨n,h⟩:=h
 rw [ER] at hsz
 obtain ⟨a0,a1,a2,a3,a4,a5,a6,a7,a8,a9,a10,a11,a12,a13,a14,rfl⟩:∃ a0 a1 a2 a3 a4 a5 a6 a7 a8 a9 a10 a11 a12 a13 a14:Value,cs=#[a0,a1,a2,a3,a4,a5,a6,a7,a8,a9,a10,a11,a12,a13,a14]:=by
  match cs,hsz with
  | ⟨[a0,a1,a2,a3,a4,a5,a6,a7,a8,a9,a10,a11,a12,a13,a14]⟩,_=>exact ⟨a0,a1,a2,a3,a4,a5,a6,a7,a8,a9,a10,a11,a12,a13,a14,rfl⟩
 obtain ⟨xs,m,_,e,hl,hxl,hf⟩:=nS Tryz.underlying28 h
 have hxl':xs.length=6:=hxl
 match xs,hxl' with
 | [y0,y1,y2,y3,y4,y5],_ =>
   have h0:DataW.trod enc Tryz.prog W 0 (fun _=>true) true m 3 (List.take (Tryz.prog.cellsOf 3) (List.drop 0 [a0,a1,a2,a3,a4,a5,a6,a7,a8,a9,a10,a11,a12,a13,a14]))=some y0:=hf 0 _ rfl
   have h1:DataW.trod enc Tryz.prog W 0 (fun _=>true) true m 3 (List.take (Tryz.prog.cellsOf 3) (List.drop 1 [a0,a1,a2,a3,a4,a5,a6,a7,a8,a9,a10,a11,a12,a13,a14]))=some y1:=hf 1 _ rfl
   have h2:DataW.trod enc Tryz.prog W 0 (fun _=>true) true m 22 (List.take (Tryz.prog.cellsOf 22) (List.drop 2 [a0,a1,a2,a3,a4,a5,a6,a7,a8,a9,a10,a11,a12,a13,a14]))=some y2:=hf 2 _ rfl
   have h3:DataW.trod enc Tryz.prog W 0 (fun _=>true) true m 26 (List.take (Tryz.prog.cellsOf 26) (List.drop 3 [a0,a1,a2,a3,a4,a5,a6,a7,a8,a9,a10,a11,a12,a13,a14]))=some y3:=hf 3 _ rfl
   have h4:DataW.trod enc Tryz.prog W 0 (fun _=>true) true m 26 (List.take (Tryz.prog.cellsOf 26) (List.drop 7 [a0,a1,a2,a3,a4,a5,a6,a7,a8,a9,a10,a11,a12,a13,a14]))=some y4:=hf 4 _ rfl
   have h5:DataW.trod enc Tryz.prog W 0 (fun _=>true) true m 26 (List.take (Tryz.prog.cellsOf 26) (List.drop 11 [a0,a1,a2,a3,a4,a5,a6,a7,a8,a9,a10,a11,a12,a13,a14]))=some y5:=hf 5 _ rfl
   rw [zI] at h0
   rw [zI] at h1
   rw [EO] at h2
   rw [Lt] at h3
   rw [Lt] at h4
   rw [Lt] at h5
   obtain ⟨k1,e0,_,_⟩:=fB Fy h0
   obtain ⟨k2,e1,_,_⟩:=fB Fy h1
   obtain ⟨pa,pc,pl,e2,hpa,hpc,hpb⟩:=Vk (v:=a2) h2
   obtain ⟨xp,xac,xao,xcc,xoc,e3,hxc,hxo,hx1,hx2⟩:=zJ (v0:=a3) (v1:=a4) (v2:=a5) (v3:=a6) h3
   obtain ⟨yp,yac,yao,ycc,yoc,e4,hyc,hyo,hy1,hy2⟩:=zJ (v0:=a7) (v1:=a8) (v2:=a9) (v3:=a10) h4
   obtain ⟨zp,zac,zao,zcc,zoc,e5,hzc,hzo,hz1,hz2⟩:=zJ (v0:=a11) (v1:=a12) (v2:=a13) (v3:=a14) h5
   replace e0:[a0]=[.int .i64 k1]:=e0
   replace e1:[a1]=[.int .i64 k2]:=e1
   simp only [gE,and_true] at e0 e1 e3 e4 e5
   obtain ⟨e30,e31,e32,e33⟩:=e3
   obtain ⟨e40,e41,e42,e43⟩:=e4
   obtain ⟨e50,e51,e52,e53⟩:=e5
   subst e0 e1 e2 e30 e31 e32 e33 e40 e41 e42 e43 e50 e51 e52 e53
   have ed:d=.agg [y0.1,y1.1,y2.1,y3.1,y4.1,y5.1]:=(Prod.mk.inj e).1
   have hb:Rows.uptoBulk y2.1≤Rows.uptoBulk d∧Rows.uptoBulk y3.1≤Rows.uptoBulk d∧Rows.uptoBulk y4.1≤Rows.uptoBulk d∧Rows.uptoBulk y5.1≤Rows.uptoBulk d:=by
    rw [ed]
    simp only [Rows.uptoBulk,Rows.uptoBulkAll]
    omega
   exact ⟨k1,k2,pl,pa,pc,xp,yp,zp,xac,xao,yac,yao,zac,zao,xcc,xoc,ycc,yoc,zcc,zoc,rfl,hpa,hpc,by omega,hxc,hxo,by omega,by omega,hyc,hyo,by omega,by omega,hzc,hzo,by omega,by omega⟩
end
end Go.Proofs.YtngphgeghfdjbaaGreatDoor
namespace Go.Proofs.YtngphgeghfdjbaaGreatDoor
open Go Go.Sl
def ev:List Int→Int→Int→Int
 | [],_,_=>0
 | c :: f,a,b=>c*b ^ f.length+a*ev f a b
def HO (l:List R2):Nat:=(l.filter fun p=>decide (Int.gcd p.a p.b≠1)).length
def GM (i:Sl.Instr):Prop:=i.op=6∨i.op=8
instance (i:Sl.Instr):Decidable (GM i):=inferInstanceAs (Decidable (_∨_))
def KP (i:Sl.Instr):Prop:=(i.op=6∨i.op=5)∧(512<i.c∨i.c < -512)
instance (i:Sl.Instr):Decidable (KP i):=inferInstanceAs (Decidable (_∧_))
def KQ (c:List Sl.Instr):Nat:=(c.filter fun i=>decide (GM i)).length
def PK (p:PV) (l:List R2):Prop:=(∀ i∈p.code,¬KP i)∧(KQ p.code:Int)≤(l.length:Int)*((l.length:Int) - 1) / 2+((l.length:Int) - 1)*(HO l:Int)
instance (p:PV) (l:List R2):Decidable (PK p l):=inferInstanceAs (Decidable (_∧_))
def HP (a b s:Int):Bool:=((Int.gcd a b:Int) - s*a).tmod b == 0
def KR (a b:Int):Nat→Nat→Nat
 | 0,k=>k
 | n+1,k=>if HP a b (k:Int) || HP a b (-(k:Int)) then k else KR a b n (k+1)
def HQ (a b:Int):Nat:=KR a b 16 0
def HR (a b:Int):Int:=if b=0 then a.tdiv (Int.gcd a b) else if HP a b (HQ a b:Int) then (HQ a b:Int) else -(HQ a b:Int)
def KS (a b:Int):Int:=if b=0 then 0 else ((Int.gcd a b:Int) - HR a b*a).tdiv b
def upd (σ:Int→Int) (r v:Int):Int→Int:=fun x=>if x=r then v else σ x
def Mq (wh:List R2) (k:Int):R2:=wh[k.toNat]?.getD default
def PL (wh:List R2) (k i:Int):Int:=(Mq wh k).a*(Mq wh i).b - (Mq wh i).a*(Mq wh k).b
def nxP (u v:Int) (C:Nat→Int) (j:Nat):Int:=v*C j+u*(if j=0 then 0 else C (j - 1))
def Dn (u v:Int):Nat→(Nat→Int)→Nat→Int
 | 0,C=>C
 | m+1,C=>Dn u v m (nxP u v C)
def co (f:List Int) (j:Nat):Int:=f[j]?.getD 0
def HS (o:List Int) (n:Nat):Prop:=o.length=n∧(∀ x∈o,0≤x∧x<n)∧o.Nodup
instance (o:List Int) (n:Nat):Decidable (HS o n):=inferInstanceAs (Decidable (_∧_))
structure Good (R:Int) (L d:Nat) (l:List Sl.Instr):Prop where
 fit:∀ i∈l,wA i R=true
 len:l.length≤L
 dv:KQ l≤d
structure Wh (wh:List R2) (o:List Int):Prop where
 tU:∀ k∈o,tU (Mq wh k).a (Mq wh k).b
 BW:∀ k∈o,Int.gcd (Mq wh k).a (Mq wh k).b=1
 bez:∀ k∈o,HR (Mq wh k).a (Mq wh k).b*(Mq wh k).a+KS (Mq wh k).a (Mq wh k).b*(Mq wh k).b=1
 KN:∀ k∈o,(HR (Mq wh k).a (Mq wh k).b).natAbs+(KS (Mq wh k).a (Mq wh k).b).natAbs≤17
 det:∀ k∈o,∀ i∈o,k≠i→PL wh k i≠0
theorem Zu (G:Imm) (c:Int) (h:0≤c∧c≤64) :
 Does Tryz.prog 317 [.int .i64 c] G [] (fun v G' Ho=>∃ r:IV,v=.agg (Cells.enc r).toArray∧Big G' r (p2 c.toNat)∧Ho=[]):=by
 obtain ⟨n,rfl⟩:=Int.eq_ofNat_of_zero_le h.1
 rw [aN]
 exact OZ G n qX
section
attribute [local irreducible] qZ pb sG rM p2 cst
end
theorem ES:pw 5≤pb 3:=by unfold pw pb;decide
theorem Vn {m k:Nat} {x y:Int} (hx:(x.natAbs:Int)<pb m) (hy:(y.natAbs:Int)<pb k):((x*y).natAbs:Int)<pb (m+k):=by
 rw [Int.natAbs_mul,cF,Qg]
 have h1:=bD (cB hy) (show (0:Int)≤x.natAbs by omega)
 have h2:=Int.mul_lt_mul_of_pos_right hx (uK k)
 omega
theorem Below.mono {m k:Nat} {zs:List Int} (h:Below m zs) (hk:m≤k):Below k zs:=fun z hz=>nH (h z hz) (Jm hk)
section
attribute [local irreducible] qZ pb sG rM p2 cst
end
theorem Df (G:Imm) (p:PV) (ac ao:Option Addr) (cc co:Nat) (hc:Arr G ac p.code) (ho:Arr G ao p.outs) (h1:p.code.length≤1099511627776) (h2:p.outs.length≤1099511627776) (hR:rJ p=true) :
 Does Tryz.prog 124 [.agg #[.int .i64 p.ins,.int .i64 p.regs,.slice ac p.code.length cc,.slice ao p.outs.length co]] G [] (fun v G' Ho=>v=.tuple #[.int .i64 (uX p).1,.int .i64 0]∧G'=G∧Ho=[]):=by
 have hf:(uX p).2=false:=by unfold rJ at hR;simpa using hR
 have h:=KD G p ac ao cc co hc ho h1 h2
 rw [hf] at h
 exact h
theorem Vo {x y:Int} (h:sG x y=0):x=y:=by
 unfold sG at h
 split at h
 · omega
 split at h <;> omega
theorem Vp {za zb:List Int} {i:Nat} (h:za.take i=zb.take i) (h1:i<za.length) (h2:i<zb.length) (he:za[i]?.getD 0=zb[i]?.getD 0):za.take (i+1)=zb.take (i+1):=by
 rw [aD h1,aD h2] at he
 rw [eE,eE,h,aD h1,aD h2]
 have e:za[i]=zb[i]:=he
 rw [e]
theorem Og (m n:Nat):Below m (List.replicate n 0):=fun z hz=>by rw [nX hz];exact uK m
section
attribute [local irreducible] qZ pb sG rM p2 cst uX
theorem PM (G:Imm) (p:PV) (ac ao:Option Addr) (cc co:Nat) (hc:Arr G ac p.code) (ho:Arr G ao p.outs) (h1:p.code.length≤1099511627776) (h2:p.outs.length≤1099511627776) (hR:rJ p=true) (n:Int) (hn:n=p.ins) :
 Does Tryz.prog 291 [.agg #[.int .i64 p.ins,.int .i64 p.regs,.slice ac p.code.length cc,.slice ao p.outs.length co],.int .i64 n] G [] (fun v G' Ho=>v=.int .i64 0∧G'=G∧Ho=[]):=by
 refine D0 Tryz.func291 Tryz.ntmps291 fun w=>?_
 refine aM 2 [] ?_
 refine dY 0 fun b1=>?_
 refine aL 6 [0] ?_
 refine bS rfl (Df _ p _ _ _ _ hc ho h1 h2 hR) ?_
 refine bA 36 [0,0,0] ?_
 refine cI ?_
 exact ⟨rfl,rfl,rfl⟩
theorem PN (G:Imm) (a b:Option Addr) (ca cb:Nat) (la lb:List IV) (za zb:List Int) (ha:Arr G a la) (hb:Arr G b lb) (hA:Bigs G la za) (hB:Bigs G lb zb) (h1:la.length≤1048576) (h2:lb.length≤1048576) (m:Nat) (hm:m≤268435456) (ba:Below m za) (bb:Below m zb) :
 Does Tryz.prog 255 [.slice a la.length ca,.slice b lb.length cb] G [] (fun v G' Ho=>∃ k:Int,v=.int .i64 k∧(k=0↔za=zb)∧G'=G∧Ho=[]):=by
 have e1:=hA.1
 have e2:=hB.1
 refine D0 Tryz.func255 Tryz.ntmps255 fun w=>?_
 by_cases hn:la.length=lb.length
 · refine cZ 41 [0,0] ?_
   refine iE (ι:=Nat) (fun i=>([(22,.int .i64 (i:Int)),(21,.int .i64 (la.length:Int)),(20,.slice a (List.length la) ca),(1,.slice b (List.length lb) cb)],[])) (fun i=>i≤la.length∧za.take i=zb.take i) (fun i=>la.length - i) (0) (⟨aZ _,rfl⟩) fun i=>fun hk=>?_
   obtain ⟨hi,hz⟩:=hk
   rcases aR i la.length with hia | hia
   · have hx9:=hA.at (k:=(i:Int)) qX
     have hy9:=hB.at (k:=(i:Int)) qX
     have hx5:=aK (gM hx9 (ba.at _)) (aK hm (show 268435456≤1073741824 by decide))
     have hy5:=aK (gM hy9 (bb.at _)) (aK hm (show 268435456≤1073741824 by decide))
     refine aM 14 [1] ?_
     refine eO (α:=IV) T.sl39 ?_
     refine nA T.agg89 ?_
     refine aW 0 rfl T.zero89 fun b1=>?_
     refine bP 5 [0] ?_
     refine eZ [0] [] T.mixed [[0,0],[1],[2]] ?_
     refine qL (α:=IV) 3 T.sl39 ?_
     refine Gm.le 4 T.agg89 ?_
     refine gC 5 ?_
     refine bS rfl (c57 _ _ _ _ _ hx9 hy9 hx5 hy5) ?_
     refine eU ?_
     refine fE [[6]] ?_
     refine eI ?_
     refine oS 7 [] ?_
     refine eX (fun hc1=>?_) fun hc1=>?_
     refine bQ 12 [] ?_
     refine cI ?_
     rotate_left
     refine bQ 7 [] ?_
     rotate_left
     · exact ⟨_,rfl,⟨fun h=>absurd h hc1,fun h=>absurd (Lp (by rw [h])) hc1⟩,rfl,rfl⟩
     refine dX (i+1) ?_ ?_
     · exact ⟨by omega,Vp hz qX qX (Vo (gD.1 hc1))⟩
     omega
   have hii:i=la.length:=qX
   subst hii
   refine bQ 18 [0] ?_
   refine cI ?_
   refine ⟨0,rfl,⟨fun _=>?_,fun _=>rfl⟩,rfl,rfl⟩
   rw [gK qX,gK qX] at hz
   exact hz
 have hne:za≠zb:=fun h=>hn (by rw [e1,e2,h])
 by_cases hlt:la.length<lb.length
 · refine bQ 26 [1] ?_
   refine cI ?_
   exact ⟨-1,rfl,⟨fun h=>absurd h rI,fun h=>absurd h hne⟩,rfl,rfl⟩
 refine bQ 37 [0,1] ?_
 refine cI ?_
 exact ⟨1,rfl,⟨fun h=>absurd h rI,fun h=>absurd h hne⟩,rfl,rfl⟩
theorem PO (G:Imm) (a b:Option Addr) (ca cb:Nat) (la lb:List IV) (za zb:List Int) (ha:Arr G a la) (hb:Arr G b lb) (hA:Bigs G la za) (hB:Bigs G lb zb) (h1:la.length≤1048576) (h2:lb.length≤1048576) (m:Nat) (hm:m≤268435456) (ba:Below m za) (bb:Below m zb) :
 Does Tryz.prog 213 [.slice a la.length ca,.slice b lb.length cb] G [] (fun v G' Ho=>v=.bool (decide (za=zb))∧G'=G∧Ho=[]):=by
 refine D0 Tryz.func213 Tryz.ntmps213 fun w=>?_
 refine aM 9 [] ?_
 refine cX 0 rfl (PN G _ _ _ _ _ _ za zb ha hb hA hB h1 h2 m hm ba bb) fun v1 G1 Ho1 hle1 hp=>?_
 obtain ⟨k1,rfl,hk1,rfl,rfl⟩:=hp
 refine bA 5 [] ?_
 refine cI ?_
 exact ⟨by rw [fH.2 hk1],rfl,rfl⟩
end
def Flat (N:Nat) (rs:List (List Int)):Prop:=∀ r∈rs,r.length=N
theorem flat_set {N k:Nat} {rs:List (List Int)} {x:List Int} (h:Flat N rs) (hx:x.length=N):Flat N (rs.set k x):=fun r hr=>by
 rcases kB hr with h1 | h1
 · exact h r h1
 rw [h1];exact hx
def CO (n k:Nat):Nat:=(n+k - 1) / k
def blkP (n1 n2 k1 k2:Nat):Nat:=max (CO n1 k1) (CO n2 k2)
def tD (n1 n2 k1 k2:Nat) (th:Int):Prop:=max th 1<(min n1 n2:Nat)∧blkP n1 n2 k1 k2<max n1 n2
instance (n1 n2 k1 k2:Nat) (th:Int):Decidable (tD n1 n2 k1 k2 th):=inferInstanceAs (Decidable (_∧_))
structure TL where
 lv:Nat
 ca:Nat
 pr:Nat
 st:Nat
def foreP (k1 k2 n st:Nat) (th:Int) (n1 n2:Nat):TL:=
 if h:tD n1 n2 k1 k2 th then
  let t:=foreP k1 k2 n st th (blkP n1 n2 k1 k2) (blkP n1 n2 k1 k2)
  ⟨1+n*t.lv,n+n*t.ca,n*t.pr,st+n*t.st⟩
 else ⟨0,0,n1*n2,0⟩
termination_by max n1 n2
decreasing_by
 have:=h.2
 omega
theorem Fz {k1 k2 n st n1 n2:Nat} {th:Int} (h:tD n1 n2 k1 k2 th):foreP k1 k2 n st th n1 n2=⟨1+n*(foreP k1 k2 n st th (blkP n1 n2 k1 k2) (blkP n1 n2 k1 k2)).lv,n+n*(foreP k1 k2 n st th (blkP n1 n2 k1 k2) (blkP n1 n2 k1 k2)).ca,n*(foreP k1 k2 n st th (blkP n1 n2 k1 k2) (blkP n1 n2 k1 k2)).pr,st+n*(foreP k1 k2 n st th (blkP n1 n2 k1 k2) (blkP n1 n2 k1 k2)).st⟩:=by
 rw [foreP,dif_pos h]
theorem Cb {k1 k2 n st n1 n2:Nat} {th:Int} (h:¬tD n1 n2 k1 k2 th):foreP k1 k2 n st th n1 n2=⟨0,0,n1*n2,0⟩:=by
 rw [foreP,dif_neg h]
def wD (k1 k2 n:Nat) (th:Int) (n1 n2 lv:Nat):List (Nat×Nat):=
 if h:tD n1 n2 k1 k2 th then (blkP n1 n2 k1 k2,lv) :: wD k1 k2 n th (blkP n1 n2 k1 k2) (blkP n1 n2 k1 k2) (lv*n) else []
termination_by max n1 n2
decreasing_by
 have:=h.2
 omega
theorem Ap {k1 k2 n n1 n2 lv:Nat} {th:Int} (h:tD n1 n2 k1 k2 th):wD k1 k2 n th n1 n2 lv=(blkP n1 n2 k1 k2,lv) :: wD k1 k2 n th (blkP n1 n2 k1 k2) (blkP n1 n2 k1 k2) (lv*n):=by rw [wD,dif_pos h]
theorem Aq {k1 k2 n n1 n2 lv:Nat} {th:Int} (h:¬tD n1 n2 k1 k2 th):wD k1 k2 n th n1 n2 lv=[]:=by rw [wD,dif_neg h]
structure FS where
 c:Nat
 la:Nat
 lv:Nat
 ca:Nat
 st:Nat
def sO (n st:Nat) (s:FS) (x:Nat×Nat):FS:=⟨x.2*n,x.1*x.1,s.lv+x.2,s.ca+x.2*n,s.st+x.2*st⟩
theorem Cc (k1 k2 n st:Nat) (th:Int):∀ (N n1 n2 lv:Nat) (s:FS),max n1 n2≤N→s.c=lv→s.la=n1*n2→
 (let r:=(wD k1 k2 n th n1 n2 lv).foldl (sO n st) s
  let t:=foreP k1 k2 n st th n1 n2
  r.lv=s.lv+lv*t.lv∧r.ca=s.ca+lv*t.ca∧r.st=s.st+lv*t.st∧r.c*r.la=lv*t.pr)
 | N,n1,n2,lv,s,hN,hc,hl=>by
   by_cases h:tD n1 n2 k1 k2 th
   · have hlt:=h.2
     obtain ⟨N',rfl⟩:∃ N',N=N'+1:=⟨N - 1,by omega⟩
     have ih:=Cc k1 k2 n st th N' (blkP n1 n2 k1 k2) (blkP n1 n2 k1 k2) (lv*n) (sO n st s (blkP n1 n2 k1 k2,lv)) qX rfl rfl
     rw [Ap h,Fz h,List.foldl_cons]
     generalize foreP k1 k2 n st th (blkP n1 n2 k1 k2) (blkP n1 n2 k1 k2)=t at ih ⊢
     generalize (wD k1 k2 n th _ _ (lv*n)).foldl (sO n st) (sO n st s (blkP n1 n2 k1 k2,lv))=r at ih ⊢
     obtain ⟨g1,g2,g3,g4⟩:=ih
     refine ⟨?_,?_,?_,?_⟩
     · rw [g1];show s.lv+lv+lv*n*t.lv=s.lv+lv*(1+n*t.lv)
       rw [mH,oW,mB];omega
     · rw [g2];show s.ca+lv*n+lv*n*t.ca=s.ca+lv*(n+n*t.ca)
       rw [mH,mB lv n t.ca];omega
     · rw [g3];show s.st+lv*st+lv*n*t.st=s.st+lv*(st+n*t.st)
       rw [mH,mB lv n t.st];omega
     show r.c*r.la=lv*(n*t.pr)
     rw [g4,mB]
   rw [Aq h,Cb h]
   exact ⟨rfl,rfl,rfl,by show s.c*s.la=lv*(n1*n2);rw [hc,hl]⟩
def wK (k1 k2:Nat) (th:Int) (n1 n2:Nat):Nat:=
 if h:tD n1 n2 k1 k2 th then wK k1 k2 th (blkP n1 n2 k1 k2) (blkP n1 n2 k1 k2)+1 else 0
termination_by max n1 n2
decreasing_by
 have:=h.2
 omega
theorem As {k1 k2 n1 n2:Nat} {th:Int} (h:tD n1 n2 k1 k2 th):wK k1 k2 th n1 n2=wK k1 k2 th (blkP n1 n2 k1 k2) (blkP n1 n2 k1 k2)+1:=by rw [wK,dif_pos h]
theorem yG {k1 k2 n1 n2:Nat} {th:Int} (h:¬tD n1 n2 k1 k2 th):wK k1 k2 th n1 n2=0:=by rw [wK,dif_neg h]
theorem Lu (n:Nat):CO n 1=n:=by unfold CO;rw [Nat.div_one];omega
theorem ET {k1 k2:Nat} (h1:1≤k1) (h2:1≤k2) (h:k1=1∨k2=1) (th:Int) (n:Nat):wK k1 k2 th n n=0:=yG fun g=>by
 have:=g.2
 unfold blkP at this
 rcases h with rfl | rfl
 · rw [Lu] at this;omega
 rw [Lu n] at this;omega
theorem Su {n c k N:Nat} (hc:1≤c) (hk:c≤k) (h:n≤c*N):CO n k≤N:=by
 unfold CO
 refine Nat.le_of_lt_succ ((oT qX).2 ?_)
 have h1:N*c≤N*k:=gG _ hk
 have h2:(N+1)*k=N*k+k:=Nat.add_one_mul N k
 have h3:c*N=N*c:=gZ _ _
 show n+k - 1<(N+1)*k
 omega
theorem Oh {c k1 k2:Nat} (hc:2≤c) (h1:c≤k1) (h2:c≤k2) (th:Int):∀ (j n1 n2:Nat),max n1 n2≤c ^ j→wK k1 k2 th n1 n2≤j
 | 0,n1,n2,h=>by
   rw [yG fun g=>by
    have:=g.1
    rw [Nat.pow_zero] at h
    omega]
   exact aE _
 | j+1,n1,n2,h=>by
   by_cases g:tD n1 n2 k1 k2 th
   · rw [As g]
     have hp:c ^ (j+1)=c*c ^ j:=by rw [kX,gZ]
     have e1:=Su (n:=n1) (N:=c ^ j) qX h1 qX
     have e2:=Su (n:=n2) (N:=c ^ j) qX h2 qX
     have:=Oh hc h1 h2 th j (blkP n1 n2 k1 k2) (blkP n1 n2 k1 k2) (by unfold blkP;omega)
     omega
   rw [yG g];omega
theorem Sv {k1 k2 n n1 n2:Nat} {th:Int} (h1:1≤k1) (h1':k1≤8) (h2:1≤k2) (h2':k2≤8) (hn:k1+k2=n+1) (hm:max n1 n2≤2048):n ^ wK k1 k2 th n1 n2≤31381059609:=by
 have key:∀ c j N:Nat,2≤c→c≤k1→c≤k2→2048≤c ^ j→n≤N→1≤N→N ^ j≤31381059609→n ^ wK k1 k2 th n1 n2≤31381059609:=fun c j N hc g1 g2 hj hN hN1 hb=>by
  have hd:=Oh hc g1 g2 th j n1 n2 qX
  exact aK (aK (iB hN _) (dZ hN1 hd)) hb
 rcases (show min k1 k2=1∨min k1 k2=2∨min k1 k2=3∨min k1 k2=4∨min k1 k2=5∨min k1 k2=6∨min k1 k2=7∨min k1 k2=8 by omega) with h | h | h | h | h | h | h | h
 · have hd:wK k1 k2 th n1 n2≤1:=by
    by_cases g:tD n1 n2 k1 k2 th
    · rw [As g,ET h1 h2 qX];exact aE _
    rw [yG g];omega
   have hle:n ^ wK k1 k2 th n1 n2≤8 ^ 1:=aK (iB (show n≤8 by omega) _) (dZ qX hd)
   omega
 · exact key 2 11 9 qX qX qX rI qX qX rI
 · exact key 3 7 10 qX qX qX rI qX qX rI
 · exact key 4 6 11 qX qX qX rI qX qX rI
 · exact key 5 5 12 qX qX qX rI qX qX rI
 · exact key 6 5 13 qX qX qX rI qX qX rI
 · exact key 7 4 14 qX qX qX rI qX qX rI
 exact key 8 4 15 qX qX qX rI qX qX rI
theorem Ge {k1 k2 n st:Nat} {th:Int} (hn:k1+k2=n+1) (h1:1≤k1) (h2:1≤k2):∀ (N n1 n2:Nat),max n1 n2≤N→
 (foreP k1 k2 n st th n1 n2).lv+1≤n ^ wK k1 k2 th n1 n2∧(foreP k1 k2 n st th n1 n2).ca+2≤2*n ^ wK k1 k2 th n1 n2∧(foreP k1 k2 n st th n1 n2).st=st*(foreP k1 k2 n st th n1 n2).lv∧(foreP k1 k2 n st th n1 n2).pr≤n ^ wK k1 k2 th n1 n2*(max n1 n2*max n1 n2)
 | N,n1,n2,hN=>by
   by_cases g:tD n1 n2 k1 k2 th
   · have hlt:=g.2
     obtain ⟨N',rfl⟩:∃ N',N=N'+1:=⟨N - 1,by omega⟩
     have hn2:2≤n:=by
      refine Nat.le_of_not_lt fun hlt2=>?_
      have e1:k1=1:=qX
      have e2:k2=1:=qX
      subst e1 e2
      unfold blkP at hlt
      rw [Lu,Lu] at hlt
      omega
     obtain ⟨g1,g2,g3,g4⟩:=Ge (st:=st) (th:=th) hn h1 h2 N' (blkP n1 n2 k1 k2) (blkP n1 n2 k1 k2) qX
     rw [Fz g,As g,kX]
     generalize foreP k1 k2 n st th (blkP n1 n2 k1 k2) (blkP n1 n2 k1 k2)=t at g1 g2 g3 g4
     generalize n ^ wK k1 k2 th (blkP n1 n2 k1 k2) (blkP n1 n2 k1 k2)=p at g1 g2 g4
     refine ⟨?_,?_,?_,?_⟩
     · show 1+n*t.lv+1≤p*n
       have:=gG n g1
       rw [mH,oW] at this
       rw [gZ p n];omega
     · show n+n*t.ca+2≤2*(p*n)
       have:=gG n g2
       rw [mH,show n*(2*p)=2*(p*n) by rw [gZ p n];ac_rfl] at this
       omega
     · show st+n*t.st=st*(1+n*t.lv)
       rw [g3,mH,oW,show n*(st*t.lv)=st*(n*t.lv) by ac_rfl]
     show n*t.pr≤p*n*(max n1 n2*max n1 n2)
     have e1:=gG n g4
     rw [Nat.max_self] at e1
     have e2:blkP n1 n2 k1 k2*blkP n1 n2 k1 k2≤max n1 n2*max n1 n2:=iI qX qX
     have e3:=gG (n*p) e2
     rw [gZ p n,mB n p (blkP n1 n2 k1 k2*_)] at *
     omega
   rw [Cb g,yG g,Nat.pow_zero]
   refine ⟨aE _,aE _,(Nat.mul_zero st).symm,?_⟩
   show n1*n2≤1*(max n1 n2*max n1 n2)
   rw [mG]
   exact iI qX qX
theorem Jr (n st:Nat):∀ (l:List (Nat×Nat)) (s:FS),s.lv≤(l.foldl (sO n st) s).lv∧s.ca≤(l.foldl (sO n st) s).ca∧s.st≤(l.foldl (sO n st) s).st
 | [],s=>⟨aE _,aE _,aE _⟩
 | x :: l,s=>by
   obtain ⟨h1,h2,h3⟩:=Jr n st l (sO n st s x)
   rw [List.foldl_cons]
   exact ⟨aK (qT _ _) h1,aK (qT _ _) h2,aK (qT _ _) h3⟩
theorem Js {n st k:Nat} {l:List (Nat×Nat)} {x:Nat×Nat} (s:FS) (h:l[k]?=some x):(l.take (k+1)).foldl (sO n st) s=sO n st ((l.take k).foldl (sO n st) s) x:=by
 rw [eE,h,List.foldl_append];rfl
theorem Vq {n st:Nat} (l:List (Nat×Nat)) (k:Nat) (s:FS):((l.take k).foldl (sO n st) s).lv≤(l.foldl (sO n st) s).lv∧((l.take k).foldl (sO n st) s).ca≤(l.foldl (sO n st) s).ca∧((l.take k).foldl (sO n st) s).st≤(l.foldl (sO n st) s).st:=by
 have:=Jr n st (l.drop k) ((l.take k).foldl (sO n st) s)
 rwa [←List.foldl_append,dC] at this
theorem Jt {k1 k2 n:Nat} {th:Int}:∀ (N n1 n2 lv:Nat),max n1 n2≤N→∀ x∈wD k1 k2 n th n1 n2 lv,x.1≤N
 | N,n1,n2,lv,hN,x,hx=>by
   by_cases h:tD n1 n2 k1 k2 th
   · have hlt:=h.2
     obtain ⟨N',rfl⟩:∃ N',N=N'+1:=⟨N - 1,by omega⟩
     rw [Ap h] at hx
     rcases cH.1 hx with rfl | hx
     · show blkP n1 n2 k1 k2≤N'+1
       omega
     exact qJ (Jt N' _ _ _ qX x hx)
   rw [Aq h] at hx;cases hx
theorem Ce {k1 k2 n st n1 n2:Nat} {th:Int} (h1:1≤k1) (h1':k1≤8) (h2:1≤k2) (h2':k2≤8) (hn:k1+k2=n+1) (hm:max n1 n2≤2048) (hst:st≤49152) :
 (foreP k1 k2 n st th n1 n2).lv≤31381059609∧(foreP k1 k2 n st th n1 n2).ca≤62762119218∧(foreP k1 k2 n st th n1 n2).pr≤131621703842267136∧(foreP k1 k2 n st th n1 n2).st≤1542441841852416:=by
 obtain ⟨g1,g2,g3,g4⟩:=Ge (st:=st) (th:=th) hn h1 h2 _ n1 n2 (aE _)
 have hp:=Sv (th:=th) h1 h1' h2 h2' hn hm
 generalize n ^ wK k1 k2 th n1 n2=p at g1 g2 g4 hp
 refine ⟨by omega,by omega,aK g4 (aK (iI hp (iI hm hm)) rI),?_⟩
 rw [g3]
 exact aK (iI hst (show (foreP k1 k2 n st th n1 n2).lv≤31381059608 by omega)) rI
def LevAt (k1 k2 n:Nat) (th:Int) (n1 n2 k a b lv:Nat):Prop:=
 k≤(wD k1 k2 n th n1 n2 1).length∧(wD k1 k2 n th n1 n2 1).drop k=wD k1 k2 n th a b lv∧max a b≤2048∧lv*n ^ wK k1 k2 th a b≤31381059609
theorem LevAt.start {k1 k2 n n1 n2:Nat} {th:Int} (h1:1≤k1) (h1':k1≤8) (h2:1≤k2) (h2':k2≤8) (hn:k1+k2=n+1) (hm:max n1 n2≤2048):LevAt k1 k2 n th n1 n2 0 n1 n2 1:=
 ⟨aZ _,jN,hm,by rw [mG];exact Sv h1 h1' h2 h2' hn hm⟩
theorem LevAt.lv {k1 k2 n n1 n2 k a b lv:Nat} {th:Int} (h:LevAt k1 k2 n th n1 n2 k a b lv) (hn:1≤n):lv≤31381059609:=
 aK (oB _ (mF hn)) h.2.2.2
theorem LevAt.here {k1 k2 n n1 n2 k a b lv:Nat} {th:Int} (h:LevAt k1 k2 n th n1 n2 k a b lv) (he:tD a b k1 k2 th):(wD k1 k2 n th n1 n2 1)[k]?=some (blkP a b k1 k2,lv):=by
 have:=h.2.1
 rw [Ap he] at this
 rw [←gJ k,←fF,this];rfl
theorem LevAt.next {k1 k2 n n1 n2 k a b lv:Nat} {th:Int} (h:LevAt k1 k2 n th n1 n2 k a b lv) (he:tD a b k1 k2 th):LevAt k1 k2 n th n1 n2 (k+1) (blkP a b k1 k2) (blkP a b k1 k2) (lv*n):=by
 have h0:=h.here he
 have h2:=he.2
 have h3:=h.2.2.1
 refine ⟨(aJ.1 h0).1,?_,by omega,?_⟩
 · have:=h.2.1
   rw [Ap he] at this
   rw [←nF,this];rfl
 have:=h.2.2.2
 rw [As he,kX] at this
 rw [mB,gZ n];exact this
theorem LevAt.done {k1 k2 n n1 n2 k a b lv:Nat} {th:Int} (h:LevAt k1 k2 n th n1 n2 k a b lv) (he:¬tD a b k1 k2 th):k=(wD k1 k2 n th n1 n2 1).length:=by
 have:=h.2.1
 rw [Aq he] at this
 have h1:=List.drop_eq_nil_iff.1 this
 have:=h.1
 omega
theorem Ju {k1 k2 a b:Nat} {th:Int} (he:tD a b k1 k2 th):wK k1 k2 th (blkP a b k1 k2) (blkP a b k1 k2)<wK k1 k2 th a b:=by rw [As he];omega
def Gf (l:List (Nat×Nat)):List Int:=l.flatMap fun x=>[(x.1:Int),(x.2:Int)]
theorem Cg (l:List (Nat×Nat)):(Gf l).length=2*l.length:=by
 induction l with
 | nil=>rfl
 | cons x l ih =>
   show ([(x.1:Int),(x.2:Int)]++Gf l).length=_
   rw [aQ,ih,bH]
   show 2+2*l.length=2*(l.length+1)
   omega
theorem Gg {l:List (Nat×Nat)} {k:Nat} {x:Nat×Nat} (h:l[k]?=some x):Gf (l.take (k+1))=Gf (l.take k)++[(x.1:Int),(x.2:Int)]:=by
 unfold Gf
 rw [eE,h,List.flatMap_append];rfl
theorem Sw {k1 k2 n:Nat} {th:Int}:∀ (N n1 n2 lv:Nat),max n1 n2≤N→(wD k1 k2 n th n1 n2 lv).length≤N
 | N,n1,n2,lv,hN=>by
   by_cases h:tD n1 n2 k1 k2 th
   · have hlt:=h.2
     obtain ⟨N',rfl⟩:∃ N',N=N'+1:=⟨N - 1,by omega⟩
     rw [Ap h,bH]
     exact Nat.succ_le_succ (Sw N' _ _ _ qX)
   rw [Aq h];exact aZ _
structure U8 where
 v:Int
 deriving DecidableEq
instance:Inhabited U8:=⟨⟨0⟩⟩
instance:Cells U8:=⟨1,fun n=>[.int .u8 n.v],fun _=>rfl,fun _=>rfl⟩
structure RS where
 k:Nat
 wr:Bool
def nx (B:List U8) (s:RS) (g:Int→Bool):Int×RS:=
 if s.wr=true∨s.k=B.length∨g (B[s.k]?.getD default).v=false then (0,⟨s.k,true⟩) else ((B[s.k]?.getD default).v,⟨s.k+1,false⟩)
def PP (op c:Int):Bool:=
 if op=5∨op=6 then decide ((c≠0∧-512≤c)∧c≤512) else if op=7∨op=8 then decide (1≤c∧c≤64) else decide (c=0)
def i16 (h l:Int):Int:=if 32768≤h*256+l then h*256+l - 65536 else h*256+l
def hiC (op h:Int):Bool:=(List.range 256).any fun l=>PP op (i16 h (l:Int))
structure UV where
 k1:Int
 k2:Int
 pl:List R2
 x:PV
 y:PV
 z:PV
section
attribute [local irreducible] qZ pb sG rM
theorem Ch {G:Imm} {l:List IV} {zs:List Int} {r:IV} {z:Int} (h:Bigs G l zs) (hr:Big G r z):Bigs G (l++[r]) (zs++[z]):=by
 have e1:=h.1
 refine ⟨by rw [aQ,aQ,e1];rfl,fun i hi=>?_⟩
 rw [aQ,List.length_singleton] at hi
 rcases aR i l.length with h3 | h3
 · rw [bE h3,bE qX];exact h.2 i h3
 have h4:i=l.length:=qX
 subst h4
 rw [cM (aE _),cM qX,e1,mT];exact hr
def Sx (P:Nat→Int) (n:Nat):List Int:=(List.range n).map P
theorem Gh (P:Nat→Int) (n:Nat):Sx P (n+1)=Sx P n++[P n]:=by unfold Sx;rw [List.range_succ,oR];rfl
theorem GN (G:Imm) (a:Option Addr) (c:Nat) (xs:List IV) (g:Nat) (fst:List Value) (P:Nat→Int) (hg:uE Tryz.prog g) (ha:Arr G a xs) (hl:xs.length≤1048576)
 (hf:∀ k:Nat,k<xs.length→∀ G',G.le G'→Does Tryz.prog g (fst++[.agg (Cells.enc (xs[((k:Nat):Int).toNat]?.getD default)).toArray]++[]) G' [] (fun v G'' Ho=>∃ r:IV,v=.agg (Cells.enc r).toArray∧Big G'' r (P k)∧Ho=[])) :
 Does Tryz.prog 318 [.slice a xs.length c,.func (.func g) fst.toArray #[]] G [] (fun v G' Ho=>∃ (s:Option Addr) (r:List IV) (d:Nat),v=.slice s r.length d∧Arr G' s r∧r.length≤d∧Bigs G' r (Sx P xs.length)∧Ho=[]):=by
 refine D0 Tryz.func318 Tryz.ntmps318 fun w=>?_
 refine jU 9 (rP 89 ([]:List IV) []) ?_
 refine cZ 19 [] ?_
 refine nB (ι:=Nat×Imm×List IV×(Option Addr×Nat×List Value)) (fun (k,Gx,r,(o,d,j))=>([(10,.int .i64 (k:Int)),(5,.slice o r.length d),(9,.int .i64 (xs.length:Int)),(8,.slice a (List.length xs) c),(4,.slice none 0 0),(1,.func (Go.Fn.func g) (List.toArray fst) #[])],[(9,o.map (·.block),rP 89 r j)])) (fun (k,Gx,r,(o,d,j))=>Gx) (fun (k,Gx,r,(o,d,j))=>k≤xs.length∧G.le Gx∧r.length=k∧Bigs Gx r (Sx P k)∧OwnA o d r j) (fun (k,Gx,r,(o,d,j))=>xs.length - k) ((0,G,[],(none,0,[]))) (⟨aZ _,cC _,rfl,⟨rfl,fun i h=>absurd h rV⟩,gF⟩) rfl ⟨rfl,rfl,rfl,rfl,rfl,rfl,trivial⟩ ⟨rfl,trivial⟩ fun ⟨k,Gx,r,(o,d,j)⟩=>fun hk=>?_
 obtain ⟨hk1,hk2,hk3,hk4,hk5⟩:=hk
 replace ha:=ha.up hk2
 rcases aR k xs.length with hkl | hkl
 · refine aM 13 [1] ?_
   refine eO (α:=IV) T.sl39 ?_
   refine nA T.agg89 ?_
   refine aW 10 rfl T.zero89 fun b1=>?_
   refine aL 7 [10,10] ?_
   refine fX (fst:=fst) (cap:=[]) 20 rfl hg rfl rfl (hf k hkl _ hk2) (sE trivial) fun v1 G1 Ho1 hle1 hp=>?_
   obtain ⟨r1,rfl,hr1,rfl⟩:=hp
   refine iC (α:=IV) 11 [(r1)] rfl T.sl39 T.el89 rfl rfl rfl rfl rfl fun b2=>?_
   refine Wl.ap (α:=IV) 9 T.sl39 T.el89 (nN 11 rfl) fun a1 c1 junk1 ho1=>?_
   refine bA 8 [] ?_
   refine cS 10 rfl (show _=Value.int .i64 ((k+1:Nat):Int) from rfl) ?_
   refine dX ((k+1,G1,r++[r1],(a1,c1,junk1))) ?_ ?_
   · refine ⟨hkl,bI hk2 hle1,by rw [aQ,hk3];rfl,?_,ho1⟩
     rw [Gh];exact Ch (hk4.up hle1) hr1
   show xs.length - (k+1)<xs.length - k
   omega
 have hkl:k=xs.length:=qX
 subst hkl
 refine bQ 19 [0] ?_
 refine eT 9 rfl hk5 fun G8 hle8 hA8=>?_
 refine cI ?_
 exact ⟨o,r,d,rfl,hA8,hk5.le,hk4.up hle8,rfl⟩
theorem KT (G:Imm) (a:Option Addr) (c:Nat) (xs:List IV) (g bk:Nat) (cap:List Value) (P:Nat→Int) (hg:uE Tryz.prog g) (ha:Arr G a xs) (hl:xs.length≤1048576)
 (hf:∀ k:Nat,k<xs.length→∀ G',G.le G'→Does Tryz.prog g ([]++[.agg (Cells.enc (xs[((k:Nat):Int).toNat]?.getD default)).toArray]++cap) G' [(0,some bk,.cells #[.int .i64 ((k:Int) - 1)] 3)] (fun v G'' Ho=>∃ r:IV,v=.agg (Cells.enc r).toArray∧Big G'' r (P k)∧Ho=[(0,some bk,.cells #[.int .i64 (((k+1:Nat):Int) - 1)] 3)])) :
 Does Tryz.prog 318 [.slice a xs.length c,.func (.func g) #[] cap.toArray] G [(0,some bk,.cells #[.int .i64 (-1)] 3)] (fun v G' Ho=>∃ (s:Option Addr) (r:List IV) (d:Nat),v=.slice s r.length d∧Arr G' s r∧r.length≤d∧Bigs G' r (Sx P xs.length)∧Ho=[(0,some bk,.cells #[.int .i64 ((xs.length:Int) - 1)] 3)]):=by
 refine D0 Tryz.func318 Tryz.ntmps318 fun w=>?_
 refine jU 9 (rP 89 ([]:List IV) []) ?_
 refine cZ 19 [] ?_
 refine qQ 0 (.cells #[.int .i64 (((0:Nat):Int) - 1)] 3) rfl rfl ?_
 refine nB (ι:=Nat×Imm×List IV×(Option Addr×Nat×List Value)) (fun (k,Gx,r,(o,d,j))=>([(10,.int .i64 (k:Int)),(5,.slice o r.length d),(9,.int .i64 (xs.length:Int)),(8,.slice a (List.length xs) c),(4,.slice none 0 0),(1,.func (Go.Fn.func g) #[] (List.toArray cap))],[(0,some bk,.cells #[.int .i64 ((k:Int) - 1)] 3),(9,o.map (·.block),rP 89 r j)])) (fun (k,Gx,r,(o,d,j))=>Gx) (fun (k,Gx,r,(o,d,j))=>k≤xs.length∧G.le Gx∧r.length=k∧Bigs Gx r (Sx P k)∧OwnA o d r j) (fun (k,Gx,r,(o,d,j))=>xs.length - k) ((0,G,[],(none,0,[]))) (⟨aZ _,cC _,rfl,⟨rfl,fun i h=>absurd h rV⟩,gF⟩) rfl ⟨rfl,rfl,rfl,rfl,rfl,rfl,trivial⟩ ⟨rfl,rfl,trivial⟩ fun ⟨k,Gx,r,(o,d,j)⟩=>fun hk=>?_
 obtain ⟨hk1,hk2,hk3,hk4,hk5⟩:=hk
 replace ha:=ha.up hk2
 rcases aR k xs.length with hkl | hkl
 · refine aM 13 [1] ?_
   refine eO (α:=IV) T.sl39 ?_
   refine nA T.agg89 ?_
   refine aW 10 rfl T.zero89 fun b1=>?_
   refine aL 7 [10,10] ?_
   refine fX (fst:=[]) (cap:=cap) 0 rfl hg rfl rfl (hf k hkl _ hk2) (sE ⟨rfl,trivial⟩) fun v1 G1 Ho1 hle1 hp=>?_
   obtain ⟨r1,rfl,hr1,rfl⟩:=hp
   refine iC (α:=IV) 11 [(r1)] rfl T.sl39 T.el89 rfl rfl rfl rfl rfl fun b2=>?_
   refine Wl.ap (α:=IV) 9 T.sl39 T.el89 (nN 11 rfl) fun a1 c1 junk1 ho1=>?_
   refine bA 8 [] ?_
   refine cS 10 rfl (show _=Value.int .i64 ((k+1:Nat):Int) from rfl) ?_
   refine dX ((k+1,G1,r++[r1],(a1,c1,junk1))) ?_ ?_
   · refine ⟨hkl,bI hk2 hle1,by rw [aQ,hk3];rfl,?_,ho1⟩
     rw [Gh];exact Ch (hk4.up hle1) hr1
   show xs.length - (k+1)<xs.length - k
   omega
 have hkl:k=xs.length:=qX
 subst hkl
 refine bQ 19 [0] ?_
 refine eT 9 rfl hk5 fun G8 hle8 hA8=>?_
 refine eH (.inr rfl) (Ho:=[(0,some bk,.cells #[.int .i64 ((xs.length:Int) - 1)] 3)]) rfl (.tmp rfl) ⟨rfl,trivial⟩ ?_
 exact ⟨o,r,d,rfl,hA8,hk5.le,hk4.up hle8,rfl⟩
end
end Go.Proofs.YtngphgeghfdjbaaGreatDoor
end
