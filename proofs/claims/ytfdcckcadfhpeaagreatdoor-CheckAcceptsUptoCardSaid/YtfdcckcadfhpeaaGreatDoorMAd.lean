/- cK of the proof (part 4): what the rows' text needs of the texts that lead to it. -/
import Derived.Test.YtfdcckcadfhpeaaGreatDoorMAc
set_option linter.unusedVariables false
set_option linter.unusedSimpArgs false
set_option linter.unusedSectionVars false
set_option maxHeartbeats 4000000
set_option maxRecDepth 100000
namespace Go.Proofs.YtfdcckcadfhpeaaGreatDoor
open Go Go.Sl
theorem aBH {n:Int} (h:-9223372036854775808≤n∧n<0):IntKind.u64.wrap (0 - IntKind.u64.wrap n)=-n:=by
 rw [IntKind.wrap_u64,IntKind.wrap_u64];omega
theorem aPS (u:Int):aB [(⟨u % 4294967296⟩:U32),⟨u / 4294967296⟩]=u:=by
 rw [cV,cV,bW]
 show u % 4294967296+4294967296*(u / 4294967296+4294967296*0)=u
 omega
theorem aLR {u:Int} (h:0≤u∧u<18446744073709551616):Lims [(⟨u % 4294967296⟩:U32),⟨u / 4294967296⟩]:=by
 intro d hd
 simp only [List.mem_cons,List.mem_nil_iff,or_false] at hd
 rcases hd with rfl | rfl
 · exact nW u
 show 0≤u / 4294967296∧u / 4294967296<4294967296
 omega
theorem Big.lt {G:Imm} {x:IV} {z:Int} (h:Big G x z):(z.natAbs:Int)<pb x.n:=by
 obtain ⟨l,h1,_,_,h4⟩:=h
 rw [←h4.abs,←h1];exact eK h4.digs
section
attribute [local irreducible] aB pb bL bK
theorem c78 (G:Imm) (n:Int) (hn:-9223372036854775808≤n∧n≤9223372036854775807) :
 Does Tryz.prog 78 [.int .i64 n] G [] (fun v G' Ho=>∃ r:IV,v=.agg (Cells.enc r).toArray∧Big G' r n∧Ho=[]):=by
 refine D0 Tryz.func78 Tryz.ntmps78 fun w=>?_
 refine Wc.gl 2 [] ?_
 refine Wl.alloc 0 rfl T.zero125 fun b1=>?_
 refine Wl.gl 5 [] ?_
 refine Wl.p (bE rfl T.u214 rfl) ?_
 refine Wl.gc 3 [] ?_
 refine eY (ι:=Int) (fun u=>([(0,.int .i64 n),(2,.pointer (some ⟨b1,0,none⟩)),(3,.int .u64 u)],[(0,some b1,.cells #[.bool false,.slice none 0 0] 125)])) (fun u=>0≤u∧u<18446744073709551616∧n=if decide (n<0)=true then -u else u) ?_ fun u=>fun (hk:0≤u∧u<18446744073709551616∧n=if decide (n<0)=true then -u else u)=>?_
 · by_cases hneg:n<0
   · refine Wc.gl 9 [1] ?_
     refine Wl.p (fM rfl) ?_
     refine Wl.ga 2 [] ?_
     refine Ar.re 3 rfl (show _=Value.int .u64 (-n) by rw [aBH ⟨hn.1,hneg⟩]) ?_
     refine Ar.mt (-n) ?_
     exact ⟨by omega,by omega,by rw [if_pos (by simpa using hneg)];omega⟩
   refine Wc.ga 8 [0] ?_
   refine Ar.re 3 rfl (show _=Value.int .u64 n by rw [IntWalk.u64_in _ (by omega)]) ?_
   refine Ar.mt (n) ?_
   exact ⟨by omega,by omega,by rw [if_neg (by simpa using hneg)]⟩
 obtain ⟨hu0,hu1,hun⟩:=hk
 refine Wc.gl 5 [] ?_
 refine Wl.p (cF rfl T.u215 rfl) ?_
 refine aA 1 [] ?_
 refine Wl.p (bI rfl rfl (by omega)) ?_
 refine Wl.p (bX rfl T.u215 rfl (by omega)) ?_
 refine Wl.lit (α:=U32) 1 [⟨u % 4294967296⟩,⟨u / 4294967296⟩] rfl T.sl123 T.el215 rfl rfl rfl rfl rfl fun b2=>?_
 have hd:=aLR ⟨hu0,hu1⟩
 refine Wl.freezeRow 1 rfl (dV (xs:=[(⟨u % 4294967296⟩:U32),⟨u / 4294967296⟩]) (by simp [maxLen])) fun G9 hle9 hA9=>?_
 refine Wl.k 2 rfl (c139 _ _ _ _ _ ‹_› ‹_› (by first | omega | (simp only [List.length_cons,List.length_nil];omega)) (by first | omega | (simp only [List.length_cons,List.length_nil];omega))) fun v1 G1 Ho1 hle1 hp=>?_
 obtain ⟨r1,rfl,hr1,rfl⟩:=hp
 replace hA9:=hA9.up hle1
 refine Wl.ga 4 [0] ?_
 refine aT (.inr rfl) (Ho:=Hp.only _ []) rfl (.agg 0 rfl rfl T.agg125) (aC _ _) ?_
 exact ⟨_,rfl,Big.out hr1 (by rw [aPS];exact hun.symm),rfl⟩
theorem c138 (G:Imm) (x y:IV) (zx zy:Int) (hx:Big G x zx) (hy:Big G y zy) (h1:x.n≤536870912) (h2:y.n≤536870912) :
 Does Tryz.prog 138 [.agg (Cells.enc x).toArray,.agg (Cells.enc y).toArray] G [] (fun v G' Ho=>∃ r:IV,v=.agg (Cells.enc r).toArray∧Big G' r (zx+zy)∧Ho=[]):=by
 obtain ⟨n1,a,k1,ca⟩:=x
 obtain ⟨n2,b,k2,cb⟩:=y
 obtain ⟨la,hl,hlc,hA,hI⟩:=hx
 obtain ⟨lb,hl',hlc',hA',hI'⟩:=hy
 simp only at hl hlc hA hI hl' hlc' hA' hI' h1 h2
 subst hl hl'
 have da:=hI.digs
 have db:=hI'.digs
 have ta:=hI.top
 have tb:=hI'.top
 have len_le:∀ {l m:List U32},Lims l→Lims m→Top m→aB m≤aB l→m.length≤l.length:=fun {l m} hl hm tm h=>by
  rcases Nat.lt_or_ge l.length m.length with h1 | h1
  · have:=iI hl hm tm h1;omega
  exact h1
 show Does Tryz.prog 138 [.agg #[.bool n1,.slice a la.length ca],.agg #[.bool n2,.slice b lb.length cb]] G [] _
 refine D0 Tryz.func138 Tryz.ntmps138 fun w=>?_
 by_cases hs:n1=n2
 · refine Wc.gl 2 [] ?_
   refine Wl.x 0 fun b1=>?_
   refine Wl.x 1 fun b2=>?_
   refine Wl.alloc 2 rfl T.zero125 fun b3=>?_
   refine Wl.gl 9 [0,1] ?_
   refine Wl.p (lH T.u4 rfl rfl) ?_
   refine Wl.gc 4 [1] ?_
   refine aN [0,1,2] [(2,8)] T.mixed [[0],[1,0],[2],[3,0],[4],[5,1]] ?_
   refine Gm.o1 6 ?_
   refine Wl.k 3 rfl (c183 _ _ _ _ _ _ _ ‹_› ‹_› ‹_› ‹_› (by omega) (by omega)) fun v1 G1 Ho1 hle1 hp=>?_
   obtain ⟨⟨ra1,rm1,rfl,hra1,hrl1,hrt1,hrv1,hrn1⟩,rfl⟩:=hp
   replace hA:=hA.up hle1
   replace hA':=hA'.up hle1
   refine Wl.o1 7 ?_
   refine Wl.k0 rfl (iV _ _ _ _ _ (by omega)) ?_
   refine Wl.o1 8 ?_
   refine aA 1 [2] ?_
   refine aZ ?_
   refine Ar.ga 3 [] ?_
   refine aT (.inr rfl) (Ho:=Hp.only _ []) rfl (.agg 2 rfl rfl T.agg125) (aC _ _) ?_
   all_goals
    refine ⟨⟨n1 && decide (0<rm1.length),ra1,rm1.length,rm1.length⟩,rfl,Big.make n1 hra1 hrl1 hrt1 (Nat.le_refl _) ?_,rfl⟩
    rw [hrv1,hI.val,hI'.val]
    revert hs
    cases n1 <;> cases n2 <;> simp <;> omega
 by_cases hle:aB lb≤aB la
 · have hcmp:¬bL (aB la) (aB lb)<0:=fun h=>by have:=aBF h;omega
   have hll:=len_le da db tb hle
   refine Wc.gl 2 [] ?_
   refine Wl.x 0 fun b1=>?_
   refine Wl.x 1 fun b2=>?_
   refine Wl.alloc 2 rfl T.zero125 fun b3=>?_
   refine Wl.gl 9 [0,1] ?_
   refine Wl.p (lH T.u4 rfl rfl) ?_
   refine Wl.gl 12 [0,0,1] ?_
   refine Wl.k0 rfl (aBC _ _ _ _ _ _ _ ‹_› ‹_› ‹_› ‹_› (by omega) (by omega) (by omega) (by omega)) ?_
   refine Wl.gl 12 [0,0,1] ?_
   refine Wl.k 3 rfl (c184 _ _ _ _ _ _ _ ‹_› ‹_› ‹_› ‹_› (by omega) (by omega) (by omega) (by omega) (by omega)) fun v1 G1 Ho1 hle1 hp=>?_
   obtain ⟨rq1,rfl,⟨ra1,rm1,rfl,hra1,hrl1,hrt1,hrv1,hrn1⟩,rfl⟩:=hp
   replace hA:=hA.up hle1
   replace hA':=hA'.up hle1
   refine Wl.gl 12 [0] ?_
   refine Wl.k0 rfl (iV _ _ _ _ _ (by omega)) ?_
   refine Wl.ga 4 [2] ?_
   refine aT (.inr rfl) (Ho:=Hp.only _ []) rfl (.agg 2 rfl rfl T.agg125) (aC _ _) ?_
   refine ⟨⟨n1 && decide (0<rm1.length),ra1,rm1.length,rm1.length⟩,rfl,Big.make n1 hra1 hrl1 hrt1 (Nat.le_refl _) ?_,rfl⟩
   rw [hrv1,hI.val,hI'.val]
   revert hs
   cases n1 <;> cases n2 <;> simp <;> omega
 have hcmp:bL (aB la) (aB lb)=-1:=iC (by omega)
 have hle':aB la≤aB lb:=by omega
 have hll:=len_le db da ta hle'
 refine Wc.gl 2 [] ?_
 refine Wl.x 0 fun b1=>?_
 refine Wl.x 1 fun b2=>?_
 refine Wl.alloc 2 rfl T.zero125 fun b3=>?_
 refine Wl.gl 9 [0,1] ?_
 refine Wl.p (lH T.u4 rfl rfl) ?_
 refine Wl.gl 12 [0,0,1] ?_
 refine Wl.k0 rfl (aBC _ _ _ _ _ _ _ ‹_› ‹_› ‹_› ‹_› (by omega) (by omega) (by omega) (by omega)) ?_
 refine Wl.gl 17 [1,1,0,0,1,0,1] ?_
 refine Wl.k 3 rfl (c184 _ _ _ _ _ _ _ ‹_› ‹_› ‹_› ‹_› (by omega) (by omega) (by omega) (by omega) (by omega)) fun v1 G1 Ho1 hle1 hp=>?_
 obtain ⟨rq1,rfl,⟨ra1,rm1,rfl,hra1,hrl1,hrt1,hrv1,hrn1⟩,rfl⟩:=hp
 replace hA:=hA.up hle1
 replace hA':=hA'.up hle1
 refine Wl.gl 12 [0] ?_
 refine Wl.k0 rfl (iV _ _ _ _ _ (by omega)) ?_
 refine Wl.ga 4 [2] ?_
 refine aT (.inr rfl) (Ho:=Hp.only _ []) rfl (.agg 2 rfl rfl T.agg125) (aC _ _) ?_
 refine ⟨⟨n2 && decide (0<rm1.length),ra1,rm1.length,rm1.length⟩,rfl,Big.make n2 hra1 hrl1 hrt1 (Nat.le_refl _) ?_,rfl⟩
 rw [hrv1,hI.val,hI'.val]
 revert hs
 cases n1 <;> cases n2 <;> simp <;> omega
theorem c177 (G:Imm) (x y:IV) (zx zy:Int) (hx:Big G x zx) (hy:Big G y zy) (h1:x.n≤536870912) (h2:y.n≤536870912) :
 Does Tryz.prog 177 [.agg (Cells.enc x).toArray,.agg (Cells.enc y).toArray] G [] (fun v G' Ho=>∃ r:IV,v=.agg (Cells.enc r).toArray∧Big G' r (zx - zy)∧Ho=[]):=by
 refine D0 Tryz.func177 Tryz.ntmps177 fun w=>?_
 refine Wc.gl 2 [] ?_
 refine Wl.x 0 fun b1=>?_
 refine Wl.x 1 fun b2=>?_
 refine Wl.alloc 2 rfl T.zero125 fun b3=>?_
 refine Wl.gc 3 [] ?_
 refine aN [0,1,2] [(2,4)] T.mixed [[0,0],[1,1]] ?_
 refine Gm.o1 2 ?_
 refine Wl.k 3 rfl (c176 _ _ _ hy (by omega)) fun v1 G1 Ho1 hle1 hp=>?_
 obtain ⟨nr1,rfl,hnr1,rfl,rfl⟩:=hp
 refine Wl.o1 3 ?_
 have hn1:nr1.n≤y.n:=Big.len hnr1 (by rw [Int.natAbs_neg];exact Big.lt hy)
 refine Wl.k 20 rfl (c138 _ x nr1 zx (-zy) hx hnr1 h1 (by omega)) fun v2 G2 Ho2 hle2 hp=>?_
 obtain ⟨r2,rfl,hr2,rfl⟩:=hp
 refine Wl.o1 4 ?_
 refine aA 1 [2] ?_
 refine aZ ?_
 refine Ar.ga 2 [] ?_
 refine aT (.inr rfl) (Ho:=Hp.only _ []) rfl (.agg 2 rfl rfl T.agg125) (aC _ _) ?_
 exact ⟨r2,rfl,Big.out hr2 (Int.sub_eq_add_neg).symm,rfl⟩
theorem pb_p2 (d s:Nat):pb d*((2 ^ s:Nat):Int)=((2 ^ (32*d+s):Nat):Int):=by
 unfold pb
 rw [←Int.natCast_mul]
 congr 1
 rw [show (4294967296:Nat)=2 ^ 32 by decide,←Nat.pow_mul,←Nat.pow_add]
theorem c247 (G:Imm) (x:IV) (zx:Int) (d s:Nat) (hx:Big G x zx) (h1:x.n≤536870912) (hs:s<32) (hd:d≤1000) :
 Does Tryz.prog 247 [.agg (Cells.enc x).toArray,.int .i64 ((32*d+s:Nat):Int)] G [] (fun v G' Ho=>∃ r:IV,v=.tuple #[.agg (Cells.enc r).toArray,.int .i64 0]∧Big G' r (zx*((2 ^ (32*d+s):Nat):Int))∧Ho=[]):=by
 obtain ⟨n1,a,k1,ca⟩:=x
 obtain ⟨la,hl,hlc,hA,hI⟩:=hx
 simp only at hl hlc hA hI h1
 subst hl
 have da:=hI.digs
 show Does Tryz.prog 247 [.agg #[.bool n1,.slice a la.length ca],.int .i64 ((32*d+s:Nat):Int)] G [] _
 refine D0 Tryz.func247 Tryz.ntmps247 fun w=>?_
 refine Wc.gl 2 [] ?_
 refine Wl.x 0 fun b1=>?_
 refine Wl.alloc 1 rfl T.zero125 fun b2=>?_
 refine Wl.gl 8 [0] ?_
 refine Wl.k 2 rfl (c250 _ _ _ _ d s ‹_› ‹_› (by omega) hs hd) fun v1 G1 Ho1 hle1 hp=>?_
 obtain ⟨rq1,rfl,⟨ra1,rm1,rfl,hra1,hrl1,hrt1,hrv1,hrn1⟩,rfl⟩:=hp
 replace hA:=hA.up hle1
 refine Wl.gl 22 [0,0] ?_
 refine Wl.k0 rfl (iV _ _ _ _ _ (by omega)) ?_
 refine Wl.ga 5 [1] ?_
 refine bQ (.inr rfl) (Ho:=Hp.only _ []) rfl (.agg 1 rfl rfl T.agg125) (.tmp rfl) (aC _ _) ?_
 refine ⟨⟨n1 && decide (0<rm1.length),ra1,rm1.length,rm1.length⟩,rfl,Big.make n1 hra1 hrl1 hrt1 (Nat.le_refl _) ?_,rfl⟩
 rw [hrv1,hI.val,pb_p2]
 cases n1
 · rw [if_neg (by decide),if_neg (by decide),Int.mul_comm]
 rw [if_pos rfl,if_pos rfl,Int.neg_mul,Int.mul_comm]
end
end Go.Proofs.YtfdcckcadfhpeaaGreatDoor
namespace Go.Sl
open Go
section
variable {B:Bs} {e:Env} {D:List Deferred} {H:Hp} {G:Imm}
theorem retagH {a:Act} {w:World} (hh:Hold B ⟨e,D,H,G⟩ a w) (t t':Nat) {k:Option Nat} {o:Obj} (ht:H.get t=some (k,o)) (hn:t≠t') (hk:H.get t'=none∨True):Hold B ⟨e,D,(t',k,o) :: (t,none,o) :: H,G⟩ a w:=by
 have key:∀ i b o',Hp.get ((t',k,o) :: (t,none,o) :: H) i=some (some b,o')→(i=t'∧H.get t=some (some b,o'))∨(i≠t'∧i≠t∧H.get i=some (some b,o')):=fun i b o' hx=>by
  rw [aK] at hx
  split at hx
  · rename_i hi;left;refine ⟨hi.symm,?_⟩;rw [ht];exact hx
  rename_i hi
  rw [aK] at hx
  split at hx
  · simp at hx
  rename_i hi2;exact .inr ⟨fun h=>hi h.symm,fun h=>hi2 h.symm,hx⟩
 refine ⟨hh.size,hh.defers,hh.env,⟨?_,?_,hh.mem.imm,?_⟩,hh.upd,?_,hh.le,hh.new⟩
 · intro i b o' hx
   rcases key i b o' hx with ⟨_,h⟩ | ⟨_,_,h⟩
   · exact hh.mem.own _ b o' h
   exact hh.mem.own _ b o' h
 · intro i i' b o1 o2 hx hy
   rcases key i b o1 hx with ⟨h1,h2⟩ | ⟨h1,h1',h2⟩ <;> rcases key i' b o2 hy with ⟨h3,h4⟩ | ⟨h3,h3',h4⟩
   · rw [h1,h3]
   · exact absurd (hh.mem.one _ _ b _ _ h2 h4).symm h3'
   · exact absurd (hh.mem.one _ _ b _ _ h2 h4) h1'
   exact hh.mem.one _ _ b _ _ h2 h4
 · intro i b o' hx
   rcases key i b o' hx with ⟨_,h⟩ | ⟨_,_,h⟩
   · exact hh.mem.off _ b o' h
   exact hh.mem.off _ b o' h
 intro i b o' hx
 rcases key i b o' hx with ⟨_,h⟩ | ⟨_,_,h⟩
 · exact hh.mine _ b o' h
 exact hh.mine _ b o' h
theorem Ar.retag {x:Exit} {Q:Exit→Act→World→Prop} (t t':Nat) {k:Option Nat} {o:Obj} (ht:H.get t=some (k,o)) (hn:Nat.beq t t'=false) (h:Ar Q x B ⟨e,D,(t',k,o) :: (t,none,o) :: H,G⟩):Ar Q x B ⟨e,D,H,G⟩:=
 fun a w hh=>h a w (retagH hh t t' ht (fun e=>by subst e;simp at hn) (.inr trivial))
end
end Go.Sl
namespace Go.Proofs.YtfdcckcadfhpeaaGreatDoor
open Go Go.Sl
theorem aDW (z:Int):-1≤sgZ z∧sgZ z≤1:=by unfold sgZ;split;exact ⟨by omega,by omega⟩;split <;> exact ⟨by omega,by omega⟩
theorem aFO (z:Int):-9223372036854775808≤sgZ z∧sgZ z≤9223372036854775807:=by have:=aDW z;omega
theorem aPT (z:Int):((sgZ z).natAbs:Int)<pb 1:=by have:=aDW z;have:pb 1=4294967296:=(by decide);omega
theorem aPU (z:Int):sgZ z*z=z.natAbs:=by
 unfold sgZ
 split
 · omega
 split <;> omega
theorem tC {x y q r:Int} (hy:y≠0) (h:x=q*y+r) (h0:0≤r) (h1:r<y.natAbs):q=x / y∧r=x % y:=by
 rcases Int.lt_or_gt_of_ne hy with hn | hp
 · have:=(Int.ediv_emod_unique' (a:=x) (b:=y) (r:=r) (q:=q) hn).2 ⟨by rw [Int.mul_comm y q];omega,h0,by omega⟩
   exact ⟨this.1.symm,this.2.symm⟩
 have:=(Int.ediv_emod_unique (a:=x) (b:=y) (r:=r) (q:=q) hp).2 ⟨by rw [Int.mul_comm y q];omega,h0,by omega⟩
 exact ⟨this.1.symm,this.2.symm⟩
theorem aBI {n1 n2:Bool} {x y la lb lq lr:Int} (hx:x=if n1=true then -la else la) (hy:y=if n2=true then -lb else lb) (hv:la=lq*lb+lr) :
 x=(if decide (n1≠n2)=true then -lq else lq)*y+(if n1=true then -lr else lr):=by
 subst hx hy hv
 cases n1 <;> cases n2 <;> simp [Int.neg_mul,Int.mul_neg,Int.neg_add]
theorem aFP {x y q r:Int} (h:x=q*y+r):x=(q - sgZ y)*y+(r+y.natAbs):=by
 have:=aPU y
 rw [Int.sub_mul,this];omega
theorem aPV {n1:Bool} {m:List U32} {q x y:Int} (hx:x=q*y+(if n1=true then -aB m else aB m)) (hy:y≠0) (hl:aB m<y.natAbs) (h:(n1 && decide (0<m.length))=true) (ht:Top m) (hd:Lims m) :
 q - sgZ y=x / y∧(if n1=true then -aB m else aB m)+(y.natAbs:Int)=x % y:=by
 rw [Bool.and_eq_true,decide_eq_true_eq] at h
 have hp:=uI hd ht (fun e=>by have:=h.2;rw [e] at this;simp at this)
 have e:=h.1
 subst e
 rw [if_pos rfl] at hx ⊢
 exact tC hy (aFP hx) (by omega) (by omega)
theorem aLS {n1:Bool} {m:List U32} {q x y:Int} (hx:x=q*y+(if n1=true then -aB m else aB m)) (hy:y≠0) (hl:aB m<y.natAbs) (h:(n1 && decide (0<m.length))=false) (hd:Lims m) :
 q=x / y∧(if n1=true then -aB m else aB m)=x % y:=by
 have hn:=bS hd
 refine tC hy hx ?_ ?_
 · cases n1 with
   | false=>rw [if_neg (by decide)];exact hn
   | true =>
     have h0:m=[]:=by
      rw [Bool.true_and,decide_eq_false_iff_not] at h
      exact List.eq_nil_of_length_eq_zero (by omega)
     rw [if_pos rfl,h0,bW]
     omega
 split <;> omega
section
attribute [local irreducible] aB pb bL bK
theorem c179 (G:Imm) (x y:IV) (zx zy:Int) (hx:Big G x zx) (hy:Big G y zy) (h1:x.n≤268435456) (h2:y.n≤268435456) (hy0:zy≠0) :
 Does Tryz.prog 179 [.agg (Cells.enc x).toArray,.agg (Cells.enc y).toArray] G [] (fun v G' Ho=>∃ q r:IV,v=.tuple #[.agg (Cells.enc q).toArray,.agg (Cells.enc r).toArray,.int .i64 0]∧Big G' q (zx / zy)∧Big G' r (zx % zy)∧Ho=[]):=by
 obtain ⟨n1,a,k1,ca⟩:=x
 obtain ⟨n2,b,k2,cb⟩:=y
 obtain ⟨la,hl,hlc,hA,hI⟩:=hx
 obtain ⟨lb,hl',hlc',hA',hI'⟩:=hy
 simp only at hl hlc hA hI hl' hlc' hA' hI' h1 h2
 subst hl hl'
 have da:=hI.digs
 have db:=hI'.digs
 have ta:=hI.top
 have tb:=hI'.top
 have h1':la.length≤536870912:=by omega
 have h2':lb.length≤536870912:=by omega
 have va:=hI.abs
 have vb:=hI'.abs
 have hlt:=eK db
 have hB:0<aB lb:=by omega
 show Does Tryz.prog 179 [.agg #[.bool n1,.slice a la.length ca],.agg #[.bool n2,.slice b lb.length cb]] G [] _
 refine D0 Tryz.func179 Tryz.ntmps179 fun w=>?_
 refine Wc.gl 2 [] ?_
 refine Wl.x 0 fun b1=>?_
 refine Wl.x 1 fun b2=>?_
 refine Wl.alloc 2 rfl T.zero125 fun b3=>?_
 refine Wl.alloc 3 rfl T.zero125 fun b4=>?_
 refine Wl.gl 9 [0,1] ?_
 refine Wl.k 4 rfl (c222 _ _ _ _ _ _ _ ‹_› ‹_› da ta db h1' h2' hlc hlc' hB) fun v1 G1 Ho1 hle1 hp=>?_
 obtain ⟨_,_,rfl,⟨qa1,qm1,rfl,hqa1,hql1,hqt1,hqv1,hqn1⟩,⟨ra1,rm1,rfl,hra1,hrl1,hrt1,hrv1,hrn1⟩,rfl⟩:=hp
 replace hA:=hA.up hle1
 replace hA':=hA'.up hle1
 refine Wl.gc 19 [0] ?_
 refine eY (ι:=Nat×Nat) (fun (p,q)=>([(10,.pointer (some ⟨p,0,none⟩)),(11,.pointer (some ⟨q,0,none⟩)),(6,.int .i64 0),(5,.pointer (some (Addr.mk b4 0 none))),(4,.pointer (some (Addr.mk b3 0 none))),(3,.pointer (some ⟨b2,0,none⟩))],[(60,some p,.cells #[.bool (decide (n1≠n2) && decide (0<qm1.length)),.slice qa1 qm1.length qm1.length] 125),(61,some q,.cells #[.bool (n1 && decide (0<rm1.length)),.slice ra1 rm1.length rm1.length] 125),(3,some b4,.cells #[.bool Bool.false,.slice none 0 0] 125),(2,some b3,.cells #[.bool Bool.false,.slice none 0 0] 125),(1,some b2,.cells #[.bool n2,.slice b (List.length lb) cb] 125),(0,some b1,.cells #[.bool n1,.slice a (List.length la) ca] 125)])) (fun (p,q)=>True) ?_ fun ⟨p,q⟩=>fun (hk:True)=>?_
 · refine aN [0,1,2,3] [] T.mixed [[0],[1,0],[2],[3,1]] ?_
   refine Gm.u 4 [] rfl (pB T.u4 rfl rfl) ?_
   refine Gm.r [[5],[7],[8,0],[9]] ?_
   refine Gm.o3 6 11 12 ?_ ?_ ?_
   refine Wl.k0 rfl (iV _ _ _ _ _ (by omega)) ?_
   refine aO ?_
   refine Gm.o3 10 11 12 ?_ ?_ ?_
   refine Wl.k0 rfl (iV _ _ _ _ _ (by omega)) ?_
   refine aO ?_
   refine Gm.o2 11 12 ?_ ?_
   refine Wl.alloc 4 rfl T.zero125 fun b5=>?_
   refine Wl.o1 12 ?_
   refine Wl.alloc 5 rfl T.zero125 fun b6=>?_
   refine Wl.o1 13 ?_
   refine aA 1 [4] ?_
   refine Wl.o1 14 ?_
   refine aA 1 [5] ?_
   refine aZ ?_
   rotate_left
   refine Wl.alloc 4 rfl T.zero125 fun b5=>?_
   refine Wl.o1 11 ?_
   refine Wl.alloc 5 rfl T.zero125 fun b6=>?_
   refine Wl.o1 13 ?_
   refine aA 1 [5] ?_
   refine Wl.o1 14 ?_
   refine aA 1 [4] ?_
   refine aZ ?_
   rotate_left
   refine Wl.alloc 4 rfl T.zero125 fun b5=>?_
   refine aO ?_
   refine Gm.o2 10 12 ?_ ?_
   refine Wl.k0 rfl (iV _ _ _ _ _ (by omega)) ?_
   refine Wl.o1 12 ?_
   refine Wl.alloc 5 rfl T.zero125 fun b6=>?_
   refine Wl.o1 13 ?_
   refine aA 1 [4] ?_
   refine Wl.o1 14 ?_
   refine aA 1 [5] ?_
   refine aZ ?_
   rotate_left
   refine Wl.alloc 5 rfl T.zero125 fun b6=>?_
   refine Wl.o1 10 ?_
   refine Wl.k0 rfl (iV _ _ _ _ _ (by omega)) ?_
   refine Wl.o1 13 ?_
   refine aA 1 [4] ?_
   refine Wl.o1 14 ?_
   refine aA 1 [5] ?_
   refine aZ ?_
   rotate_left
   refine Wl.alloc 4 rfl T.zero125 fun b5=>?_
   refine aO ?_
   refine Gm.o2 10 11 ?_ ?_
   refine Wl.k0 rfl (iV _ _ _ _ _ (by omega)) ?_
   refine Wl.o1 11 ?_
   refine Wl.alloc 5 rfl T.zero125 fun b6=>?_
   refine Wl.o1 13 ?_
   refine aA 1 [5] ?_
   refine Wl.o1 14 ?_
   refine aA 1 [4] ?_
   refine aZ ?_
   rotate_left
   refine Wl.alloc 5 rfl T.zero125 fun b6=>?_
   refine Wl.o1 10 ?_
   refine Wl.k0 rfl (iV _ _ _ _ _ (by omega)) ?_
   refine Wl.o1 13 ?_
   refine aA 1 [5] ?_
   refine Wl.o1 14 ?_
   refine aA 1 [4] ?_
   refine aZ ?_
   rotate_left
   refine Wl.alloc 4 rfl T.zero125 fun b5=>?_
   refine aO ?_
   refine Gm.o2 6 12 ?_ ?_
   refine Wl.k0 rfl (iV _ _ _ _ _ (by omega)) ?_
   refine aO ?_
   refine Gm.o2 10 12 ?_ ?_
   refine Wl.k0 rfl (iV _ _ _ _ _ (by omega)) ?_
   refine Wl.o1 12 ?_
   refine Wl.alloc 5 rfl T.zero125 fun b6=>?_
   refine Wl.o1 13 ?_
   refine aA 1 [4] ?_
   refine Wl.o1 14 ?_
   refine aA 1 [5] ?_
   refine aZ ?_
   rotate_left
   refine Wl.alloc 5 rfl T.zero125 fun b6=>?_
   refine Wl.o1 10 ?_
   refine Wl.k0 rfl (iV _ _ _ _ _ (by omega)) ?_
   refine Wl.o1 13 ?_
   refine aA 1 [4] ?_
   refine Wl.o1 14 ?_
   refine aA 1 [5] ?_
   refine aZ ?_
   rotate_left
   refine Wl.alloc 5 rfl T.zero125 fun b6=>?_
   refine Wl.o1 6 ?_
   refine Wl.k0 rfl (iV _ _ _ _ _ (by omega)) ?_
   refine Wl.o1 10 ?_
   refine Wl.k0 rfl (iV _ _ _ _ _ (by omega)) ?_
   refine Wl.o1 13 ?_
   refine aA 1 [4] ?_
   refine Wl.o1 14 ?_
   refine aA 1 [5] ?_
   refine aZ ?_
   rotate_left
   refine Wl.alloc 4 rfl T.zero125 fun b5=>?_
   refine aO ?_
   refine Gm.o2 6 11 ?_ ?_
   refine Wl.k0 rfl (iV _ _ _ _ _ (by omega)) ?_
   refine aO ?_
   refine Gm.o2 10 11 ?_ ?_
   refine Wl.k0 rfl (iV _ _ _ _ _ (by omega)) ?_
   refine Wl.o1 11 ?_
   refine Wl.alloc 5 rfl T.zero125 fun b6=>?_
   refine Wl.o1 13 ?_
   refine aA 1 [5] ?_
   refine Wl.o1 14 ?_
   refine aA 1 [4] ?_
   refine aZ ?_
   rotate_left
   refine Wl.alloc 5 rfl T.zero125 fun b6=>?_
   refine Wl.o1 10 ?_
   refine Wl.k0 rfl (iV _ _ _ _ _ (by omega)) ?_
   refine Wl.o1 13 ?_
   refine aA 1 [5] ?_
   refine Wl.o1 14 ?_
   refine aA 1 [4] ?_
   refine aZ ?_
   rotate_left
   refine Wl.alloc 5 rfl T.zero125 fun b6=>?_
   refine Wl.o1 6 ?_
   refine Wl.k0 rfl (iV _ _ _ _ _ (by omega)) ?_
   refine Wl.o1 10 ?_
   refine Wl.k0 rfl (iV _ _ _ _ _ (by omega)) ?_
   refine Wl.o1 13 ?_
   refine aA 1 [5] ?_
   refine Wl.o1 14 ?_
   refine aA 1 [4] ?_
   refine aZ ?_
   rotate_left
   all_goals first | (refine Ar.retag 4 60 rfl rfl (Ar.retag 5 61 rfl rfl (pG (b5,b6) trivial rfl ?_ ?_)) <;> (repeat (first | exact trivial | refine ⟨rfl,?_⟩));done) | (refine Ar.retag 5 60 rfl rfl (Ar.retag 4 61 rfl rfl (pG (b6,b5) trivial rfl ?_ ?_)) <;> (repeat (first | exact trivial | refine ⟨rfl,?_⟩));done)
 have hxy:=aBI hI.val hI'.val (show aB la=aB qm1*aB lb+aB rm1 by rw [hqv1,hrv1,Int.mul_comm];exact (Int.mul_ediv_add_emod (aB la) (aB lb)).symm)
 have hrlt:aB rm1<aB lb:=by rw [hrv1];exact Int.emod_lt_of_pos _ hB
 have hQ0:=Big.make (decide (n1≠n2)) hqa1 hql1 hqt1 (Nat.le_refl _) rfl
 have hy2:Big G1 ⟨n2,b,lb.length,cb⟩ zy:=⟨lb,rfl,hlc',hA',hI'⟩
 have hR0:=Big.make n1 hra1 hrl1 hrt1 (Nat.le_refl _) rfl
 refine Wc.gc 7 [61] ?_
 refine lE rfl (fun hc1=>?_) fun hc1=>?_
 refine Wc.seq ?_
 refine aN [0,1,2,3,61,60] [(61,4)] T.mixed [[0,61],[1,1]] ?_
 refine Gm.o1 2 ?_
 refine Wl.k 62 rfl (c223 _ ⟨n2,b,lb.length,cb⟩ zy hy2 (Nat.le_trans h2' (by decide))) fun v2 G2 Ho2 hle2 hp=>?_
 obtain ⟨nr2,rfl,hnr2,rfl,rfl⟩:=hp
 refine Wl.o1 3 ?_
 refine Wl.k 62 rfl (c138 _ ⟨(n1 && decide (0<rm1.length)),ra1,rm1.length,rm1.length⟩ nr2 _ _ hR0 hnr2 (Nat.le_trans hrn1 h2') (Nat.le_trans (Big.len hnr2 (m:=lb.length) (by omega)) h2')) fun v3 G3 Ho3 hle3 hp=>?_
 obtain ⟨rs3,rfl,hrs3,rfl⟩:=hp
 replace hnr2:=hnr2.up hle3
 replace hqa1:=hqa1.up hle3
 replace hra1:=hra1.up hle3
 replace hA:=hA.up hle3
 replace hA':=hA'.up hle3
 replace hQ0:=hQ0.up hle3
 replace hy2:=hy2.up hle3
 replace hR0:=hR0.up hle3
 refine Wl.o1 4 ?_
 refine aA 1 [61] ?_
 refine aZ ?_
 refine Ar.next ?_
 refine aN [0,1,2,3,60,61] [(60,5)] T.mixed [[0,60],[1,1]] ?_
 refine Gm.o1 2 ?_
 refine Wl.k0 rfl (c180 _ _ _ _ _ zy hI' (by omega)) ?_
 refine Wl.o1 3 ?_
 refine Wl.k 62 rfl (c78 _ _ (aFO zy)) fun v4 G4 Ho4 hle4 hp=>?_
 obtain ⟨ro4,rfl,hro4,rfl⟩:=hp
 replace hrs3:=hrs3.up hle4
 replace hnr2:=hnr2.up hle4
 replace hqa1:=hqa1.up hle4
 replace hra1:=hra1.up hle4
 replace hA:=hA.up hle4
 replace hA':=hA'.up hle4
 replace hQ0:=hQ0.up hle4
 replace hy2:=hy2.up hle4
 replace hR0:=hR0.up hle4
 refine Wl.o1 4 ?_
 refine Wl.k 62 rfl (c177 _ ⟨(decide (n1≠n2) && decide (0<qm1.length)),qa1,qm1.length,qm1.length⟩ ro4 _ _ hQ0 hro4 (Nat.le_trans hqn1 h1') (Nat.le_trans (Big.len hro4 (m:=1) (aPT zy)) (by decide))) fun v5 G5 Ho5 hle5 hp=>?_
 obtain ⟨rd5,rfl,hrd5,rfl⟩:=hp
 replace hro4:=hro4.up hle5
 replace hrs3:=hrs3.up hle5
 replace hnr2:=hnr2.up hle5
 replace hqa1:=hqa1.up hle5
 replace hra1:=hra1.up hle5
 replace hA:=hA.up hle5
 replace hA':=hA'.up hle5
 replace hQ0:=hQ0.up hle5
 replace hy2:=hy2.up hle5
 replace hR0:=hR0.up hle5
 refine Wl.o1 5 ?_
 refine aA 1 [60] ?_
 refine aZ ?_
 refine Ar.gc 2 [] ?_
 refine aN [0,1,2,3,61,60] [(3,3),(2,2)] T.mixed [[0,60],[1,61]] ?_
 refine Gm.o1 2 ?_
 refine aA 1 [2] ?_
 refine Wl.o1 3 ?_
 refine aA 1 [3] ?_
 refine aO ?_
 refine Gm.r [[4]] ?_
 refine Gm.fin ?_
 refine Ar.ga 2 [] ?_
 refine lJ (.inr rfl) (Ho:=Hp.only _ []) rfl (.agg 2 rfl rfl T.agg125) (.agg 3 rfl rfl T.agg125) (.tmp rfl) (aC _ _) ?_
 rotate_left
 refine Wc.gc 3 [] ?_
 refine aN [0,1,2,3,61,60] [(3,3),(2,2)] T.mixed [[0,60],[1,61]] ?_
 refine Gm.o1 2 ?_
 refine aA 1 [2] ?_
 refine Wl.o1 3 ?_
 refine aA 1 [3] ?_
 refine aO ?_
 refine Gm.r [[4]] ?_
 refine Gm.fin ?_
 refine Ar.ga 2 [] ?_
 refine lJ (.inr rfl) (Ho:=Hp.only _ []) rfl (.agg 2 rfl rfl T.agg125) (.agg 3 rfl rfl T.agg125) (.tmp rfl) (aC _ _) ?_
 rotate_left
 · have he:=aPV hxy hy0 (by omega) hc1 hrt1 hrl1
   refine ⟨rd5,rs3,rfl,?_,?_,rfl⟩
   · rw [←he.1];exact hrd5
   rw [←he.2];exact hrs3
 have he:=aLS hxy hy0 (by omega) hc1 hrl1
 refine ⟨⟨(decide (n1≠n2) && decide (0<qm1.length)),qa1,qm1.length,qm1.length⟩,⟨(n1 && decide (0<rm1.length)),ra1,rm1.length,rm1.length⟩,rfl,?_,?_,rfl⟩
 · rw [←he.1];exact hQ0
 rw [←he.2];exact hR0
end
def TrimTo (l:List U32) (n:Nat):Prop:=n≤l.length∧(∀ j,n≤j→j<l.length→(l[j]?.getD default).v=0)∧(n=0∨(l[n - 1]?.getD default).v≠0)
theorem tD {α:Type} [Cells α] {G:Imm} {a:Option Addr} {c sz:Nat} {l:List α} (h:Arr G a l) (n:Nat):Arr G (subA a c 0 sz) (l.take n):=by
 refine ⟨aV _,?_⟩
 rcases h.2 with h0 | ⟨b,o,rfl,hr⟩
 · left;rw [List.length_take];omega
 refine .inr ⟨b,o,?_,fun i v hi=>hr i v ?_⟩
 · unfold subA
   split
   · rfl
   simp [Addr.add]
 have e:bH l=bH (l.take n)++bH (l.drop n):=by rw [←dZ,List.take_append_drop]
 rw [e,List.getElem?_append_left (List.getElem?_eq_some_iff.1 hi).1];exact hi
theorem gI (G:Imm) (neg:Bool) (a:Option Addr) (c:Nat) (l:List U32) (hl:Arr G a l) (hb:l.length≤1099511627776) (hc:l.length≤c) :
 Does Tryz.prog 168 [.bool neg,.slice a l.length c] G [] (fun v G' Ho=>∃ n,v=.agg #[.bool (neg && decide (0<n)),.slice (subA a c 0 1) n c]∧TrimTo l n∧G'=G∧Ho=[]):=by
 refine D0 Tryz.func168 Tryz.ntmps168 fun w=>?_
 refine Wc.gl 2 [] ?_
 refine Wl.alloc 0 rfl T.zero190 fun b1=>?_
 refine Wl.gc 11 [] ?_
 refine Wc.lp (ι:=Nat) (fun n=>([(5,.int .i64 (n:Int)),(4,.pointer (some ⟨b1,0,none⟩)),(0,.bool neg),(1,.slice a (List.length l) c)],[(0,some b1,.cells #[.bool Bool.false,.slice none 0 0] 190)])) (fun n=>n≤l.length∧(∀ j,n≤j→j<l.length→(l[j]?.getD default).v=0)) (fun n=>n) (l.length) (⟨Nat.le_refl _,fun j h1 h2=>absurd h2 (by omega)⟩) fun n=>fun hk=>?_
 obtain ⟨hn,hz⟩:=hk
 refine Wc.gl 6 [] ?_
 apply aM 7 10 17 rfl
 intro hg1
 refine aA 7 [] ?_
 refine Wl.at (α:=U32) T.sl123 ?_
 refine aA 1 [] ?_
 refine bM 0 T.one215 ?_
 refine aA 3 [] ?_
 exact Wl.b 7 0
 intro hg1
 refine aA 7 [] ?_
 exact Wl.b 7 0
 refine Wl.gc 2 [] ?_
 refine Wc.i (fun hc1=>?_) fun hc1=>?_
 refine Wc.ga 9 [] ?_
 rotate_left
 refine Wc.gl 9 [] ?_
 refine xG 21 rfl (fun hg1=>?_) fun hg1=>?_
 refine aA 7 [] ?_
 refine Wl.p (pF T.sl123 rfl rfl (by omega)) ?_
 refine Wl.p (Qy.build (cs:=[_,_]) T.st190 rfl rfl rfl) ?_
 refine Wl.ga 4 [0] ?_
 refine aT (.inr rfl) (Ho:=Hp.only _ []) rfl (.agg 0 rfl rfl T.agg190) (aC _ _) ?_
 rotate_left
 refine aA 5 [] ?_
 refine Wl.p (pF T.sl123 rfl rfl (by omega)) ?_
 refine Wl.p (Qy.build (cs:=[_,_]) T.st190 rfl rfl rfl) ?_
 refine Wl.ga 4 [0] ?_
 refine aT (.inr rfl) (Ho:=Hp.only _ []) rfl (.agg 0 rfl rfl T.agg190) (aC _ _) ?_
 rotate_left
 · refine Ar.re 5 rfl (show _=Value.int .i64 ((n - 1:Nat):Int) by congr 1;omega) ?_
   refine aH (n - 1) ?_ ?_
   · refine ⟨by omega,fun j h1 h2=>?_⟩
     rcases Nat.lt_or_ge j n with h3 | h3
     · have e:j=(((n:Nat):Int) - 1).toNat:=by omega
       rw [e];exact hc1.2
     exact hz j h3 h2
   omega
 · refine ⟨n,?_,⟨hn,hz,?_⟩,rfl,rfl⟩
   · rw [hg1]
     have e:((0:Int)<(n:Int))=(0<n):=by rw [eq_iff_iff];omega
     simp only [e,Bool.true_and,Int.toNat_natCast]
   rcases Nat.eq_zero_or_pos n with h | h
   · exact .inl h
   refine .inr fun h2=>hc1 ⟨by omega,?_⟩
   have e:(((n:Nat):Int) - 1).toNat=n - 1:=by omega
   rw [e];exact h2
 refine ⟨n,?_,⟨hn,hz,?_⟩,rfl,rfl⟩
 · rw [hg1]
   simp only [Bool.false_and,Int.toNat_natCast]
 rcases Nat.eq_zero_or_pos n with h | h
 · exact .inl h
 refine .inr fun h2=>hc1 ⟨by omega,?_⟩
 have e:(((n:Nat):Int) - 1).toNat=n - 1:=by omega
 rw [e];exact h2
theorem TrimTo.val {l:List U32} {n:Nat} (h:TrimTo l n):aD (l.take n)=aD l:=aHR h.2.1
theorem TrimTo.top {l:List U32} {n:Nat} (h:TrimTo l n):Top (l.take n):=by
 obtain ⟨h1,h2,h3⟩:=h
 rcases h3 with h3 | h3
 · subst h3;exact .inl rfl
 by_cases h0:n=0
 · subst h0;exact .inl rfl
 refine .inr ?_
 rw [List.length_take,Nat.min_eq_left h1,List.getElem?_take,if_pos (by omega)]
 exact h3
theorem TrimTo.len {l:List U32} {n:Nat} (h:TrimTo l n):(l.take n).length=n:=by rw [List.length_take,Nat.min_eq_left h.1]
theorem TrimTo.isInt {l:List U32} {n:Nat} (h:TrimTo l n) (hd:Digs l) (neg:Bool):IsInt (neg && decide (0<n)) (l.take n) (if neg=true then -aD l else aD l):=by
 refine ⟨hd.take n,h.top,fun e=>?_,?_⟩
 · have hl:=h.len
   rw [e] at hl
   have:n=0:=by simpa using hl.symm
   subst this;simp
 have hv:=h.val
 rw [←hv]
 cases neg with
 | false=>simp
 | true =>
   by_cases h0:n=0
   · subst h0;simp [cR]
   have:0<n:=by omega
   simp [this]
theorem TrimTo.num {G:Imm} {a:Option Addr} {c:Nat} {l:List U32} {n:Nat} (h:TrimTo l n) (hd:Digs l) (hl:Arr G a l) (hc:l.length≤c) (neg:Bool):Num G ⟨neg && decide (0<n),subA a c 0 1,n,c⟩ (if neg=true then -aD l else aD l):=by
 refine ⟨l.take n,h.len,Nat.le_trans h.1 hc,?_,h.isInt hd neg⟩
 exact tD hl n
theorem aFQ (P s:Int):P*(s % 65536)+65536*P*(s / 65536)=P*s:=by
 have h:=Int.emod_add_mul_ediv s 65536
 have e:65536*P*(s / 65536)=P*(65536*(s / 65536)):=by rw [Int.mul_comm 65536 P,Int.mul_assoc]
 rw [e,←Int.mul_add,h]
def dg (l:List U32) (i:Nat):Int:=(l[((i:Nat):Int).toNat]?.getD default).v
theorem kA {l:List U32} (h:Digs l) {i:Nat} (hi:i<l.length):0≤dg l i∧dg l i<65536:=h.at (by omega)
theorem rH {l:List U32} {i:Nat} (hi:l.length≤i):dg l i=0:=by
 unfold dg;rw [Int.toNat_natCast,List.getElem?_eq_none hi];rfl
theorem dX (l:List U32) (i:Nat):aD (l.take (i+1))=aD (l.take i)+pw i*dg l i:=by
 rcases Nat.lt_or_ge i l.length with h | h
 · exact mL h
 rw [aQ h,aQ (by omega),rH h,Int.mul_zero,Int.add_zero]
theorem nL {la lb r:List U32} {i:Nat} {cy s:Int} (hri:r.length=i) (hv:aD (la.take i)+aD (lb.take i)=aD r+pw i*cy) (hs:s=cy+dg la i+dg lb i) :
 aD (la.take (i+1))+aD (lb.take (i+1))=aD (r++[⟨s % 65536⟩])+pw (i+1)*(s / 65536):=by
 rw [dX,dX,iY,hri,gF]
 have h:=aFQ (pw i) s
 rw [hs,Int.mul_add,Int.mul_add] at h
 rw [←hs] at h
 show _=aD r+pw i*(s % 65536)+65536*pw i*(s / 65536)
 omega
theorem jC {r:List U32} (h:Digs r) (s:Int):Digs (r++[⟨s % 65536⟩]):=h.append (Digs.one ⟨Int.emod_nonneg _ (by decide),Int.emod_lt_of_pos _ (by decide)⟩)
section
attribute [local irreducible] aD pw
theorem c277 (G:Imm) (a b:Option Addr) (ca cb:Nat) (la lb:List U32) (ha:Arr G a la) (hb:Arr G b lb) (da:Digs la) (db:Digs lb) (h1:la.length≤1073741824) (h2:lb.length≤1073741824) :
 Does Tryz.prog 277 [.slice a la.length ca,.slice b lb.length cb] G [] (fun v G' Ho=>∃ o c r j,v=.slice o r.length c∧OwnA o c r j∧Ho=[(0,o.map (·.block),Row 215 r j)]∧G'=G∧Digs r∧aD r=aD la+aD lb∧r.length≤max la.length lb.length+1):=by
 refine D0 Tryz.func277 Tryz.ntmps277 fun w=>?_
 refine bF 0 (Row 215 ([]:List U32) []) ?_
 refine Wc.gc 22 [] ?_
 refine Wc.loop (ι:=Nat×Int×List U32×(Option Addr×Nat×List Value)) (fun (i,cy,r,(o,d,j))=>([(7,.int .i64 (i:Int)),(6,.int .u32 cy),(5,.slice o r.length d),(4,.slice none 0 0),(0,.slice a (List.length la) ca),(1,.slice b (List.length lb) cb)],[(0,o.map (·.block),Row 215 r j)])) (fun (i,cy,r,(o,d,j))=>r.length=i∧(i≤max la.length lb.length∨(i≤max la.length lb.length+1∧cy=0))∧0≤cy∧cy≤1∧Digs r∧aD (la.take i)+aD (lb.take i)=aD r+pw i*cy∧OwnA o d r j) (fun (i,cy,r,(o,d,j))=>2*(max la.length lb.length - i)+cy.toNat) ((0,0,[],(none,0,[]))) (⟨rfl,.inl (Nat.zero_le _),by decide,by decide,Digs.nil,by rw [List.take_zero,List.take_zero,Int.mul_zero,Int.add_zero,cR];rfl,OwnA.nil⟩) ⟨rfl,rfl,rfl,rfl,rfl,rfl,trivial⟩ ⟨rfl,trivial⟩ fun ⟨i,cy,r,(o,d,j)⟩=>fun hk=>?_
 obtain ⟨hri,hiM,hc0,hc1,hdr,hv,hob⟩:=hk
 rcases Nat.lt_or_ge i la.length with hia | hia
 · have da1:0≤(la[((i:Nat):Int).toNat]?.getD default).v∧(la[((i:Nat):Int).toNat]?.getD default).v<65536:=kA da hia
   rcases Nat.lt_or_ge i lb.length with hib | hib
   · have db1:0≤(lb[((i:Nat):Int).toNat]?.getD default).v∧(lb[((i:Nat):Int).toNat]?.getD default).v<65536:=kA db hib
     refine Wc.gl 8 [] ?_
     refine lZ 12 ?_
     refine Wl.gl 30 [1,1] ?_
     refine Wl.at (α:=U32) T.sl123 ?_
     refine bM 0 T.one215 ?_
     refine Wl.p (fF rfl rfl (by omega)) ?_
     refine Wl.gl 17 [1] ?_
     refine Wl.at (α:=U32) T.sl123 ?_
     refine bM 0 T.one215 ?_
     refine Wl.p (fF rfl rfl (by omega)) ?_
     refine Wl.gl 7 [] ?_
     refine Wl.p (cO rfl rfl (by omega)) ?_
     refine Wl.lit (α:=U32) 1 [⟨(cy+Go.Sl.U32.v (Option.getD la[Int.toNat (↑i:Int)]? Inhabited.default)+Go.Sl.U32.v (Option.getD lb[Int.toNat (↑i:Int)]? Inhabited.default)) % 65536⟩] rfl T.sl123 T.el215 rfl rfl rfl rfl rfl fun b1=>?_
     refine Wl.ap (α:=U32) 0 T.sl123 T.el215 (Src.row 1 rfl) fun a1 c1 junk1 ho1=>?_
     refine Wl.gl 5 [] ?_
     refine Wl.p (iX rfl rfl (by omega)) ?_
     refine Wl.ga 9 [] ?_
     refine aH ((i+1,(cy+(la[((i:Nat):Int).toNat]?.getD default).v+(lb[((i:Nat):Int).toNat]?.getD default).v) / 65536,_,(a1,c1,junk1))) ?_ ?_
     · exact ⟨by rw [List.length_append,hri];rfl,by omega,by omega,by omega,jC hdr _,nL hri hv (by rfl),ho1⟩
     show 2*(max la.length lb.length - (i+1))+((cy+(la[((i:Nat):Int).toNat]?.getD default).v+(lb[((i:Nat):Int).toNat]?.getD default).v) / 65536).toNat<2*(max la.length lb.length - i)+cy.toNat
     omega
   have z:=rH hib
   refine Wc.gl 8 [] ?_
   refine lZ 12 ?_
   refine Wl.gl 30 [1,1] ?_
   refine Wl.at (α:=U32) T.sl123 ?_
   refine bM 0 T.one215 ?_
   refine Wl.p (fF rfl rfl (by omega)) ?_
   refine Wl.gl 19 [0] ?_
   refine Wl.p (cO rfl rfl (by omega)) ?_
   refine Wl.lit (α:=U32) 1 [⟨(cy+Go.Sl.U32.v (Option.getD la[Int.toNat (↑i:Int)]? Inhabited.default)) % 65536⟩] rfl T.sl123 T.el215 rfl rfl rfl rfl rfl fun b1=>?_
   refine Wl.ap (α:=U32) 0 T.sl123 T.el215 (Src.row 1 rfl) fun a1 c1 junk1 ho1=>?_
   refine Wl.gl 5 [] ?_
   refine Wl.p (iX rfl rfl (by omega)) ?_
   refine Wl.ga 9 [] ?_
   refine aH ((i+1,(cy+(la[((i:Nat):Int).toNat]?.getD default).v) / 65536,_,(a1,c1,junk1))) ?_ ?_
   · exact ⟨by rw [List.length_append,hri];rfl,by omega,by omega,by omega,jC hdr _,nL hri hv (by rw [z,Int.add_zero];rfl),ho1⟩
   show 2*(max la.length lb.length - (i+1))+((cy+(la[((i:Nat):Int).toNat]?.getD default).v) / 65536).toNat<2*(max la.length lb.length - i)+cy.toNat
   omega
 have z:=rH hia
 rcases Nat.lt_or_ge i lb.length with hib | hib
 · have db1:0≤(lb[((i:Nat):Int).toNat]?.getD default).v∧(lb[((i:Nat):Int).toNat]?.getD default).v<65536:=kA db hib
   refine Wc.gl 8 [] ?_
   refine dB 12 ?_
   refine aA 10 [] ?_
   refine lZ 18 ?_
   refine Wl.gl 36 [1,0,1] ?_
   refine Wl.at (α:=U32) T.sl123 ?_
   refine bM 0 T.one215 ?_
   refine Wl.p (fF rfl rfl (by omega)) ?_
   refine Wl.gl 7 [] ?_
   refine Wl.p (cO rfl rfl (by omega)) ?_
   refine Wl.lit (α:=U32) 1 [⟨(cy+Go.Sl.U32.v (Option.getD lb[Int.toNat (↑i:Int)]? Inhabited.default)) % 65536⟩] rfl T.sl123 T.el215 rfl rfl rfl rfl rfl fun b1=>?_
   refine Wl.ap (α:=U32) 0 T.sl123 T.el215 (Src.row 1 rfl) fun a1 c1 junk1 ho1=>?_
   refine Wl.gl 5 [] ?_
   refine Wl.p (iX rfl rfl (by omega)) ?_
   refine Wl.ga 9 [] ?_
   refine aH ((i+1,(cy+(lb[((i:Nat):Int).toNat]?.getD default).v) / 65536,_,(a1,c1,junk1))) ?_ ?_
   · exact ⟨by rw [List.length_append,hri];rfl,by omega,by omega,by omega,jC hdr _,nL hri hv (by rw [z,Int.add_zero];rfl),ho1⟩
   show 2*(max la.length lb.length - (i+1))+((cy+(lb[((i:Nat):Int).toNat]?.getD default).v) / 65536).toNat<2*(max la.length lb.length - i)+cy.toNat
   omega
 have z2:=rH hib
 by_cases hcy:0<cy
 · refine Wc.gl 8 [] ?_
   refine dB 12 ?_
   refine aA 10 [] ?_
   refine dB 18 ?_
   refine Wl.gl 40 [1,0,0] ?_
   refine Wl.p (cO rfl rfl (by omega)) ?_
   refine Wl.lit (α:=U32) 1 [⟨cy % 65536⟩] rfl T.sl123 T.el215 rfl rfl rfl rfl rfl fun b1=>?_
   refine Wl.ap (α:=U32) 0 T.sl123 T.el215 (Src.row 1 rfl) fun a1 c1 junk1 ho1=>?_
   refine Wl.gl 5 [] ?_
   refine Wl.p (iX rfl rfl (by omega)) ?_
   refine Wl.ga 9 [] ?_
   refine aH ((i+1,(cy) / 65536,_,(a1,c1,junk1))) ?_ ?_
   · exact ⟨by rw [List.length_append,hri];rfl,by omega,by omega,by omega,jC hdr _,nL hri hv (by rw [z,z2];omega),ho1⟩
   show 2*(max la.length lb.length - (i+1))+((cy) / 65536).toNat<2*(max la.length lb.length - i)+cy.toNat
   omega
 have e0:cy=0:=by omega
 subst e0
 rw [aQ hia,aQ hib,Int.mul_zero,Int.add_zero] at hv
 refine Wc.gl 8 [] ?_
 refine dB 12 ?_
 refine aA 10 [] ?_
 refine dB 18 ?_
 refine Wl.ga 20 [0] ?_
 refine Ar.p1 [0] ?_
 exact ⟨_,_,_,_,rfl,hob,rfl,rfl,hdr,hv.symm,by omega⟩
theorem lP {la lb r:List U32} {i:Nat} {cy cy' s:Int} (hri:r.length=i) (hv:aD (la.take i) - aD (lb.take i)=aD r - pw i*cy) (hs:s=dg la i - dg lb i - cy+65536*cy') :
 aD (la.take (i+1)) - aD (lb.take (i+1))=aD (r++[⟨s⟩]) - pw (i+1)*cy':=by
 rw [dX,dX,iY,hri,gF]
 have h:pw i*s=pw i*dg la i - pw i*dg lb i - pw i*cy+65536*pw i*cy':=by
  rw [hs,Int.mul_add,Int.mul_sub,Int.mul_sub,←Int.mul_assoc,Int.mul_comm (pw i) 65536]
 show _=aD r+pw i*s - 65536*pw i*cy'
 omega
theorem aIE {la lb r:List U32} {n:Nat} {cy:Int} (hn:n=la.length) (hb:lb.length≤la.length) (hle:aD lb≤aD la) (hri:r.length=n) (hd:Digs r) (hc:0≤cy∧cy≤1) (hv:aD (la.take n) - aD (lb.take n)=aD r - pw n*cy):aD r=aD la - aD lb:=by
 rw [aQ (by omega),aQ (by omega)] at hv
 have h:=fO hd
 rw [hri] at h
 have hcy:cy=0:=by
  rcases (show cy=0∨cy=1 by omega) with h1 | h1
  · exact h1
  rw [h1,Int.mul_one] at hv;omega
 rw [hcy,Int.mul_zero] at hv
 omega
theorem c278 (G:Imm) (a b:Option Addr) (ca cb:Nat) (la lb:List U32) (ha:Arr G a la) (hb:Arr G b lb) (da:Digs la) (db:Digs lb) (h1:la.length≤1073741824) (h2:lb.length≤la.length) (hle:aD lb≤aD la) :
 Does Tryz.prog 278 [.slice a la.length ca,.slice b lb.length cb] G [] (fun v G' Ho=>∃ o c r j,v=.slice o r.length c∧OwnA o c r j∧Ho=[(0,o.map (·.block),Row 215 r j)]∧G'=G∧Digs r∧aD r=aD la - aD lb∧r.length=la.length):=by
 refine D0 Tryz.func278 Tryz.ntmps278 fun w=>?_
 refine bF 0 (Row 215 ([]:List U32) []) ?_
 refine Wc.gc 22 [] ?_
 refine Wc.loop (ι:=Nat×Int×List U32×(Option Addr×Nat×List Value)) (fun (i,cy,r,(o,d,j))=>([(7,.int .i64 (i:Int)),(6,.int .u32 cy),(5,.slice o r.length d),(4,.slice none 0 0),(0,.slice a (List.length la) ca),(1,.slice b (List.length lb) cb)],[(0,o.map (·.block),Row 215 r j)])) (fun (i,cy,r,(o,d,j))=>r.length=i∧i≤la.length∧0≤cy∧cy≤1∧Digs r∧aD (la.take i) - aD (lb.take i)=aD r - pw i*cy∧OwnA o d r j) (fun (i,cy,r,(o,d,j))=>la.length - i) ((0,0,[],(none,0,[]))) (⟨rfl,Nat.zero_le _,by decide,by decide,Digs.nil,by rw [List.take_zero,List.take_zero,Int.mul_zero,Int.sub_zero,Int.sub_self,cR],OwnA.nil⟩) ⟨rfl,rfl,rfl,rfl,rfl,rfl,trivial⟩ ⟨rfl,trivial⟩ fun ⟨i,cy,r,(o,d,j)⟩=>fun hk=>?_
 obtain ⟨hri,hiM,hc0,hc1,hdr,hv,hob⟩:=hk
 rcases Nat.lt_or_ge i la.length with hia | hia
 · have da1:0≤(la[((i:Nat):Int).toNat]?.getD default).v∧(la[((i:Nat):Int).toNat]?.getD default).v<65536:=kA da hia
   rcases Nat.lt_or_ge i lb.length with hib | hib
   · have db1:0≤(lb[((i:Nat):Int).toNat]?.getD default).v∧(lb[((i:Nat):Int).toNat]?.getD default).v<65536:=kA db hib
     by_cases hlt:(la[((i:Nat):Int).toNat]?.getD default).v<cy+(lb[((i:Nat):Int).toNat]?.getD default).v
     · refine Wc.gl 34 [1,1] ?_
       refine Wl.at (α:=U32) T.sl123 ?_
       refine bM 0 T.one215 ?_
       refine Wl.p (fF rfl rfl (by omega)) ?_
       refine Wl.gl 12 [] ?_
       refine Wl.at (α:=U32) T.sl123 ?_
       refine bM 0 T.one215 ?_
       refine Wl.gl 15 [1] ?_
       refine Wl.p (fF rfl rfl (by omega)) ?_
       refine Wl.gl 11 [] ?_
       refine Wl.p (nI rfl rfl (by omega)) ?_
       refine Wl.lit (α:=U32) 1 [⟨Go.Sl.U32.v (Option.getD la[Int.toNat (↑i:Int)]? Inhabited.default)+65536 - (cy+Go.Sl.U32.v (Option.getD lb[Int.toNat (↑i:Int)]? Inhabited.default))⟩] rfl T.sl123 T.el215 rfl rfl rfl rfl rfl fun b1=>?_
       refine Wl.ap (α:=U32) 0 T.sl123 T.el215 (Src.row 1 rfl) fun a1 c1 junk1 ho1=>?_
       refine Wl.ga 9 [] ?_
       refine aH ((i+1,1,_,(a1,c1,junk1))) ?_ ?_
       · exact ⟨by rw [List.length_append,hri];rfl,by omega,by decide,by decide,hdr.append (Digs.one (by omega)),lP hri hv (by unfold dg;omega),ho1⟩
       show la.length - (i+1)<la.length - i
       omega
     refine Wc.gl 34 [1,1] ?_
     refine Wl.at (α:=U32) T.sl123 ?_
     refine bM 0 T.one215 ?_
     refine Wl.p (fF rfl rfl (by omega)) ?_
     refine Wl.gl 12 [] ?_
     refine Wl.at (α:=U32) T.sl123 ?_
     refine bM 0 T.one215 ?_
     refine Wl.gl 18 [0] ?_
     refine Wl.p (nI rfl rfl (by omega)) ?_
     refine Wl.lit (α:=U32) 1 [⟨Go.Sl.U32.v (Option.getD la[Int.toNat (↑i:Int)]? Inhabited.default) - (cy+Go.Sl.U32.v (Option.getD lb[Int.toNat (↑i:Int)]? Inhabited.default))⟩] rfl T.sl123 T.el215 rfl rfl rfl rfl rfl fun b1=>?_
     refine Wl.ap (α:=U32) 0 T.sl123 T.el215 (Src.row 1 rfl) fun a1 c1 junk1 ho1=>?_
     refine Wl.ga 9 [] ?_
     refine aH ((i+1,0,_,(a1,c1,junk1))) ?_ ?_
     · exact ⟨by rw [List.length_append,hri];rfl,by omega,by decide,by decide,hdr.append (Digs.one (by omega)),lP hri hv (by unfold dg;omega),ho1⟩
     show la.length - (i+1)<la.length - i
     omega
   have z:=rH hib
   by_cases hlt:(la[((i:Nat):Int).toNat]?.getD default).v<cy
   · refine Wc.gl 41 [1,0] ?_
     refine Wl.at (α:=U32) T.sl123 ?_
     refine bM 0 T.one215 ?_
     refine Wl.gl 15 [1] ?_
     refine Wl.p (fF rfl rfl (by omega)) ?_
     refine Wl.gl 11 [] ?_
     refine Wl.p (nI rfl rfl (by omega)) ?_
     refine Wl.lit (α:=U32) 1 [⟨Go.Sl.U32.v (Option.getD la[Int.toNat (↑i:Int)]? Inhabited.default)+65536 - cy⟩] rfl T.sl123 T.el215 rfl rfl rfl rfl rfl fun b1=>?_
     refine Wl.ap (α:=U32) 0 T.sl123 T.el215 (Src.row 1 rfl) fun a1 c1 junk1 ho1=>?_
     refine Wl.ga 9 [] ?_
     refine aH ((i+1,1,_,(a1,c1,junk1))) ?_ ?_
     · exact ⟨by rw [List.length_append,hri];rfl,by omega,by decide,by decide,hdr.append (Digs.one (by omega)),lP hri hv (by rw [z];unfold dg;omega),ho1⟩
     show la.length - (i+1)<la.length - i
     omega
   refine Wc.gl 41 [1,0] ?_
   refine Wl.at (α:=U32) T.sl123 ?_
   refine bM 0 T.one215 ?_
   refine Wl.gl 18 [0] ?_
   refine Wl.p (nI rfl rfl (by omega)) ?_
   refine Wl.lit (α:=U32) 1 [⟨Go.Sl.U32.v (Option.getD la[Int.toNat (↑i:Int)]? Inhabited.default) - cy⟩] rfl T.sl123 T.el215 rfl rfl rfl rfl rfl fun b1=>?_
   refine Wl.ap (α:=U32) 0 T.sl123 T.el215 (Src.row 1 rfl) fun a1 c1 junk1 ho1=>?_
   refine Wl.ga 9 [] ?_
   refine aH ((i+1,0,_,(a1,c1,junk1))) ?_ ?_
   · exact ⟨by rw [List.length_append,hri];rfl,by omega,by decide,by decide,hdr.append (Digs.one (by omega)),lP hri hv (by rw [z];unfold dg;omega),ho1⟩
   show la.length - (i+1)<la.length - i
   omega
 refine Wc.ga 22 [0] ?_
 refine Ar.p1 [0] ?_
 exact ⟨_,_,_,_,rfl,hob,rfl,rfl,hdr,aIE (by omega) h2 hle hri hdr ⟨hc0,hc1⟩ hv,by omega⟩
end
theorem nM (l:List U32) {m:Nat} (h:m≤l.length):aD l=aD (l.take m)+pw m*aD (l.drop m):=by
 have e:aD l=aD (l.take m++l.drop m):=by rw [List.take_append_drop]
 rw [e,jX,List.length_take,Nat.min_eq_left h]
theorem aRY {x y:U32} (h:x.v=y.v):x=y:=by cases x;cases y;simp only at h;rw [h]
theorem xO {la lb:List U32} {k:Nat} (hn:la.length=lb.length) (h:∀ j,k≤j→j<la.length→dg la j=dg lb j):la.drop k=lb.drop k:=by
 apply List.ext_getElem?
 intro j
 rw [List.getElem?_drop,List.getElem?_drop]
 rcases Nat.lt_or_ge (k+j) la.length with hj | hj
 · have:=h (k+j) (by omega) hj
   unfold dg at this
   rw [Int.toNat_natCast,List.getElem?_eq_getElem hj,List.getElem?_eq_getElem (by omega)] at this
   rw [List.getElem?_eq_getElem hj,List.getElem?_eq_getElem (by omega)];exact congrArg some (aRY this)
 rw [List.getElem?_eq_none hj,List.getElem?_eq_none (by omega)]
theorem aFR {la lb:List U32} {k:Nat} (hn:la.length=lb.length) (hk:k<la.length) (da:Digs la) (db:Digs lb) (h:∀ j,k+1≤j→j<la.length→dg la j=dg lb j) (hlt:dg la k<dg lb k):aD la<aD lb:=by
 have e1:=nM la (m:=k+1) (by omega)
 have e2:=nM lb (m:=k+1) (by omega)
 rw [dX,xO hn h] at e1
 rw [dX] at e2
 have h1:=fO (da.take k)
 have h2:=cH (db.take k)
 rw [List.length_take,Nat.min_eq_left (by omega)] at h1
 have h3:=Int.mul_le_mul_of_nonneg_left (show dg la k+1≤dg lb k by omega) (Int.le_of_lt (fQ k))
 rw [Int.mul_add,Int.mul_one] at h3
 omega
section
attribute [local irreducible] aD pw bL
theorem aLT (G:Imm) (a b:Option Addr) (ca cb:Nat) (la lb:List U32) (ha:Arr G a la) (hb:Arr G b lb) (da:Digs la) (db:Digs lb) (ta:Top la) (tb:Top lb) (h1:la.length≤1073741824) (h2:lb.length≤1073741824) :
 Does Tryz.prog 216 [.slice a la.length ca,.slice b lb.length cb] G [] (fun v G' Ho=>v=.int .i64 (bL (aD la) (aD lb))∧G'=G∧Ho=[]):=by
 refine D0 Tryz.func216 Tryz.ntmps216 fun w=>?_
 by_cases hn:la.length=lb.length
 · refine Wc.gc 28 [0] ?_
   refine Wc.lp (ι:=Nat) (fun k=>([(5,.int .i64 ((k:Int) - 1)),(0,.slice a (List.length la) ca),(1,.slice b (List.length lb) cb)],[])) (fun k=>k≤la.length∧∀ j,k≤j→j<la.length→dg la j=dg lb j) (fun k=>k) (la.length) (⟨Nat.le_refl _,fun j h1 h2=>absurd h2 (by omega)⟩) fun k=>fun hk=>?_
   obtain ⟨hk1,hz⟩:=hk
   rcases Nat.eq_zero_or_pos k with rfl | hpos
   · refine Wc.ga 19 [0] ?_
     refine Ar.e1 ?_
     have e:la=lb:=by
      have:=xO (k:=0) hn hz
      simpa using this
     exact ⟨by rw [e,nK rfl],rfl,rfl⟩
   have e1:(la[(((k:Nat):Int) - 1).toNat]?.getD default).v=dg la (k - 1):=by
    unfold dg;rw [show (((k:Nat):Int) - 1).toNat=((k - 1:Nat):Int).toNat by omega]
   have e2:(lb[(((k:Nat):Int) - 1).toNat]?.getD default).v=dg lb (k - 1):=by
    unfold dg;rw [show (((k:Nat):Int) - 1).toNat=((k - 1:Nat):Int).toNat by omega]
   have hz':∀ j,(k - 1)+1≤j→j<la.length→dg la j=dg lb j:=fun j h1 h2=>hz j (by omega) h2
   refine Wc.gc 14 [1] ?_
   refine aN [] [] T.mixed [[0],[1]] ?_
   refine Gm.at (α:=U32) 2 T.sl123 ?_
   refine gO 3 [] 0 T.one215 ?_
   refine Gm.r [[4],[5]] ?_
   refine Gm.at (α:=U32) 6 T.sl123 ?_
   refine gO 7 [] 0 T.one215 ?_
   refine Gm.r [[8]] ?_
   refine Gm.fin ?_
   refine Ar.next ?_
   refine Wc.i (fun hc1=>?_) fun hc1=>?_
   refine Wc.ga 12 [] ?_
   refine Ar.e1 ?_
   rotate_left
   refine Wc.gc 3 [] ?_
   refine aN [] [] T.mixed [[0],[1]] ?_
   refine Gm.at (α:=U32) 2 T.sl123 ?_
   refine gO 3 [] 0 T.one215 ?_
   refine Gm.r [[4],[5]] ?_
   refine Gm.at (α:=U32) 6 T.sl123 ?_
   refine gO 7 [] 0 T.one215 ?_
   refine Gm.r [[8]] ?_
   refine Gm.fin ?_
   refine Ar.next ?_
   refine Wc.i (fun hc2=>?_) fun hc2=>?_
   refine Wc.ga 11 [] ?_
   refine Ar.e1 ?_
   rotate_left
   refine Wc.ga 8 [] ?_
   rotate_left
   · exact ⟨by rw [iC (aFR hn (by omega) da db hz' (by omega))],rfl,rfl⟩
   · exact ⟨by rw [iU (aFR hn.symm (by omega) db da (fun j h1 h2=>(hz' j h1 (by omega)).symm) (by omega))],rfl,rfl⟩
   refine Ar.re 5 rfl (show _=Value.int .i64 (((k - 1:Nat):Int) - 1) by congr 1;omega) ?_
   refine aH (k - 1) ?_ ?_
   · refine ⟨by omega,fun j h1 h2=>?_⟩
     rcases Nat.lt_or_ge j k with h3 | h3
     · have e:j=k - 1:=by omega
       rw [e];omega
     exact hz j h3 h2
   omega
 by_cases hlt:la.length<lb.length
 · refine Wc.ga 35 [1,1] ?_
   refine Ar.e1 ?_
   exact ⟨by rw [iC (jJ da db tb hlt)],rfl,rfl⟩
 refine Wc.ga 36 [1,0] ?_
 refine Ar.e1 ?_
 exact ⟨by rw [iU (jJ db da ta (by omega))],rfl,rfl⟩
theorem c215 (G:Imm) (neg:Bool) (a:Option Addr) (c:Nat) (l:List U32) (z:Int) (h:IsInt neg l z) (h1:l.length≤1073741824) :
 Does Tryz.prog 215 [.agg #[.bool neg,.slice a l.length c]] G [] (fun v G' Ho=>v=.int .i64 (sgZ z)∧G'=G∧Ho=[]):=by
 have hz:=h.zero_iff
 have hn:=h.neg_iff
 refine D0 Tryz.func215 Tryz.ntmps215 fun w=>?_
 by_cases h0:l.length=0
 · have hz0:=hz.1 h0
   refine Wc.gl 2 [] ?_
   refine Wl.x 0 fun b1=>?_
   refine Wl.ga 20 [0,1] ?_
   refine Ar.e1 ?_
   exact ⟨by rw [hz0];rfl,rfl,rfl⟩
 have hz0:z≠0:=fun e=>h0 (hz.2 e)
 by_cases hs:z<0
 · rw [hn,decide_eq_true hs]
   refine Wc.gl 2 [] ?_
   refine Wl.x 0 fun b1=>?_
   refine Wl.ga 30 [0,0,0,1] ?_
   refine Ar.e1 ?_
   exact ⟨by unfold sgZ;rw [if_neg hz0,if_pos hs],rfl,rfl⟩
 rw [hn,decide_eq_false hs]
 refine Wc.gl 2 [] ?_
 refine Wl.x 0 fun b1=>?_
 refine Wl.ga 31 [0,0,0,0] ?_
 refine Ar.e1 ?_
 exact ⟨by unfold sgZ;rw [if_neg hz0,if_neg hs],rfl,rfl⟩
theorem c167 (G:Imm) (n1 n2:Bool) (a b:Option Addr) (ca cb:Nat) (la lb:List U32) (x y:Int) (ha:Arr G a la) (hb:Arr G b lb) (hx:IsInt n1 la x) (hy:IsInt n2 lb y) (h1:la.length≤1073741824) (h2:lb.length≤1073741824) :
 Does Tryz.prog 167 [.agg #[.bool n1,.slice a la.length ca],.agg #[.bool n2,.slice b lb.length cb]] G [] (fun v G' Ho=>v=.int .i64 (bL x y)∧G'=G∧Ho=[]):=by
 have da:=hx.digs
 have db:=hy.digs
 have ta:=hx.top
 have tb:=hy.top
 have va:=hx.abs
 have vb:=hy.abs
 have cs:∀ u v:Int,u<v→bL u v=-1:=fun u v h=>iC h
 have cg:∀ u v:Int,v<u→bL u v=1:=fun u v h=>iU h
 refine D0 Tryz.func167 Tryz.ntmps167 fun w=>?_
 have sx:(sgZ x=-1∧x<0)∨(sgZ x=0∧x=0)∨(sgZ x=1∧0<x):=by
  rcases Int.lt_trichotomy x 0 with h | h | h
  · exact .inl ⟨aLO h,h⟩
  · exact .inr (.inl ⟨aLQ h,h⟩)
  exact .inr (.inr ⟨aLP h,h⟩)
 have sy:(sgZ y=-1∧y<0)∨(sgZ y=0∧y=0)∨(sgZ y=1∧0<y):=by
  rcases Int.lt_trichotomy y 0 with h | h | h
  · exact .inl ⟨aLO h,h⟩
  · exact .inr (.inl ⟨aLQ h,h⟩)
  exact .inr (.inr ⟨aLP h,h⟩)
 refine Wc.gl 2 [] ?_
 refine Wl.x 0 fun b1=>?_
 refine Wl.x 1 fun b2=>?_
 refine Wl.gc 4 [] ?_
 refine aN [0,1] [] T.mixed [[0,0],[2,1]] ?_
 refine Gm.o1 1 ?_
 refine Wl.k0 rfl (c215 _ _ _ _ _ _ ‹_› ‹_›) ?_
 refine Wl.o1 3 ?_
 refine Wl.k0 rfl (c215 _ _ _ _ _ _ ‹_› ‹_›) ?_
 refine aO ?_
 refine Gm.r [[4],[5]] ?_
 refine Gm.fin ?_
 refine Ar.gc 9 [] ?_
 refine Wc.i (fun hc1=>?_) fun hc1=>?_
 refine Wc.gc 8 [] ?_
 refine Wc.i (fun hc2=>?_) fun hc2=>?_
 refine Wc.ga 8 [] ?_
 refine Ar.e1 ?_
 rotate_left
 refine Wc.ga 9 [] ?_
 refine Ar.e1 ?_
 rotate_left
 refine Wc.gc 9 [] ?_
 refine Wc.i (fun hc2=>?_) fun hc2=>?_
 refine Wc.gl 6 [1,0] ?_
 refine Wl.k0 rfl (aLT _ _ _ _ _ _ _ ‹_› ‹_› ‹_› ‹_› ‹_› ‹_› ‹_› ‹_›) ?_
 refine Wl.ga 5 [] ?_
 refine Ar.e1 ?_
 rotate_left
 refine Wc.gl 8 [0,1] ?_
 refine Wl.k0 rfl (aLT _ _ _ _ _ _ _ ‹_› ‹_› ‹_› ‹_› ‹_› ‹_› ‹_› ‹_›) ?_
 refine Wl.ga 4 [] ?_
 refine Ar.e1 ?_
 rotate_left
 · exact ⟨by rw [cs x y (by omega)],rfl,rfl⟩
 · exact ⟨by rw [cg x y (by omega)],rfl,rfl⟩
 · exact ⟨by rw [lO (x:=aD lb) (y:=aD la) (u:=x) (v:=y) (by omega) (by omega)],rfl,rfl⟩
 exact ⟨by rw [lO (x:=aD la) (y:=aD lb) (u:=x) (v:=y) (by omega) (by omega)],rfl,rfl⟩
end
section
attribute [local irreducible] aD pw bL
theorem c285 (G:Imm) (neg:Bool) (a:Option Addr) (c:Nat) (l:List U32) (z:Int) (ha:Arr G a l) (h:IsInt neg l z) (h1:l.length≤1073741824) (hc:l.length≤c) :
 Does Tryz.prog 285 [.agg #[.bool neg,.slice a l.length c]] G [] (fun v G' Ho=>∃ r:IV,v=.agg #[.bool r.neg,.slice r.a r.n r.c]∧Num G r (-z)∧G'=G∧Ho=[]):=by
 refine D0 Tryz.func285 Tryz.ntmps285 fun w=>?_
 refine Wc.gl 2 [] ?_
 refine Wl.x 0 fun b1=>?_
 refine Wl.alloc 1 rfl T.zero190 fun b2=>?_
 refine Wl.gl 9 [0,0] ?_
 refine Wl.k 2 rfl (gI _ _ _ _ _ ‹_› (by omega) ‹_›) fun v1 G1 Ho1 hle1 hp=>?_
 obtain ⟨tn1,rfl,htr1,rfl,rfl⟩:=hp
 refine Wl.ga 4 [1] ?_
 refine aT (.inr rfl) (Ho:=Hp.only _ []) rfl (.agg 1 rfl rfl T.agg190) (aC _ _) ?_
 refine ⟨⟨!neg && decide (0<tn1),subA a c 0 1,tn1,c⟩,rfl,?_,rfl,rfl⟩
 have e:=htr1.num h.digs ha hc (!neg)
 have e2:(if (!neg)=true then -aD l else aD l)=-z:=by
  rw [h.val];cases neg <;> simp
 rw [e2] at e;exact e
theorem c280 (G:Imm) (neg:Bool) (a:Option Addr) (c:Nat) (l:List U32) (z:Int) (ha:Arr G a l) (h:IsInt neg l z) (h1:l.length≤1073741824) (hc:l.length≤c) :
 Does Tryz.prog 280 [.agg #[.bool neg,.slice a l.length c]] G [] (fun v G' Ho=>∃ r:IV,v=.agg #[.bool r.neg,.slice r.a r.n r.c]∧Num G r (z.natAbs:Int)∧G'=G∧Ho=[]):=by
 refine D0 Tryz.func280 Tryz.ntmps280 fun w=>?_
 refine Wc.gl 2 [] ?_
 refine Wl.x 0 fun b1=>?_
 refine Wl.alloc 1 rfl T.zero190 fun b2=>?_
 refine Wl.gl 6 [0] ?_
 refine Wl.k 2 rfl (gI _ _ _ _ _ ‹_› (by omega) ‹_›) fun v1 G1 Ho1 hle1 hp=>?_
 obtain ⟨tn1,rfl,htr1,rfl,rfl⟩:=hp
 refine Wl.ga 4 [1] ?_
 refine aT (.inr rfl) (Ho:=Hp.only _ []) rfl (.agg 1 rfl rfl T.agg190) (aC _ _) ?_
 refine ⟨⟨false && decide (0<tn1),subA a c 0 1,tn1,c⟩,rfl,?_,rfl,rfl⟩
 have e:=htr1.num h.digs ha hc false
 rw [if_neg (by decide),h.abs] at e
 exact e
theorem xP {a b:Nat} (h:pw a<pw b):a<b:=by
 rcases Nat.lt_or_ge a b with h1 | h1
 · exact h1
 have:=xL h1;omega
theorem aFS {r:List U32} {u m:Int} (h:aD r+pw r.length*u=m):aD (r++[(⟨u % 65536⟩:U32)])+pw (r++[(⟨u % 65536⟩:U32)]).length*(u / 65536)=m:=by
 rw [iY,List.length_append,List.length_singleton,gF]
 have:=aFQ (pw r.length) u
 show aD r+pw r.length*(u % 65536)+65536*pw r.length*(u / 65536)=m
 omega
theorem aLU {r:List U32} {u m:Int} (h:aD r+pw r.length*u=m) (hd:Digs r) (hu:0<u) (hm:m≤9223372036854775808):r.length<4:=by
 have h1:=cH hd
 have h2:=Int.mul_le_mul_of_nonneg_left (show (1:Int)≤u by omega) (Int.le_of_lt (fQ r.length))
 refine xP ?_
 have h3:pw 4=18446744073709551616:=by unfold pw;decide
 omega
theorem aDX (G:Imm) (n:Int) (hn:-9223372036854775808≤n∧n≤9223372036854775807) :
 Does Tryz.prog 120 [.int .i64 n] G [] (fun v G' Ho=>∃ r:IV,v=.agg #[.bool r.neg,.slice r.a r.n r.c]∧Num G' r n∧Ho=[]):=by
 refine D0 Tryz.func120 Tryz.ntmps120 fun w=>?_
 refine bF 0 (Row 215 ([]:List U32) []) ?_
 by_cases hneg:n<0
 · refine Wc.gl 2 [] ?_
   refine Wl.alloc 1 rfl T.zero190 fun b1=>?_
   refine Wl.gl 5 [] ?_
   refine Wl.p (bE rfl T.u214 rfl) ?_
   refine Wl.gl 13 [1] ?_
   refine Wl.p (fM rfl) ?_
   refine Wl.gc 10 [] ?_
   refine Wc.re 3 rfl (show _=Value.int .u64 (-n) by rw [aBH ⟨hn.1,hneg⟩]) ?_
   refine Wc.loop (ι:=Int×List U32×(Option Addr×Nat×List Value)) (fun (u,r,(o,d,j))=>([(3,.int .u64 u),(4,.slice o r.length d),(2,.pointer (some ⟨b1,0,none⟩)),(0,.int .i64 n)],[(0,o.map (·.block),Row 215 r j),(1,some b1,.cells #[.bool Bool.false,.slice none 0 0] 190)])) (fun (u,r,(o,d,j))=>0≤u∧u≤9223372036854775808∧Digs r∧aD r+pw r.length*u=n.natAbs∧r.length≤4∧OwnA o d r j) (fun (u,r,(o,d,j))=>u.toNat) ((-n,[],(none,0,[]))) (⟨by omega,by omega,Digs.nil,by rw [cR,List.length_nil,pL];omega,by decide,OwnA.nil⟩) ⟨rfl,rfl,rfl,rfl,trivial⟩ ⟨rfl,rfl,trivial⟩ fun ⟨u,r,(o,d,j)⟩=>fun hk=>?_
   obtain ⟨hu0,hu1,hdr,hv,hrl,hob⟩:=hk
   by_cases hu:0<u
   · have hl4:=aLU hv hdr hu (by omega)
     refine Wc.gl 15 [1] ?_
     refine Wl.p (cO rfl rfl (by omega)) ?_
     refine Wl.p (bX rfl T.u215 rfl (by omega)) ?_
     refine Wl.lit (α:=U32) 2 [⟨u % 65536⟩] rfl T.sl123 T.el215 rfl rfl rfl rfl rfl fun b2=>?_
     refine Wl.ap (α:=U32) 0 T.sl123 T.el215 (Src.row 2 rfl) fun a1 c1 junk1 ho1=>?_
     refine Wl.gl 5 [] ?_
     refine Wl.p (gW rfl rfl (by omega)) ?_
     refine Wl.ga 3 [] ?_
     refine aH ((u / 65536,_,(a1,c1,junk1))) ?_ ?_
     · exact ⟨by omega,by omega,jC hdr _,aFS hv,by rw [List.length_append];show r.length+1≤4;omega,ho1⟩
     show (u / 65536).toNat<u.toNat
     omega
   have hu:u=0:=by omega
   subst hu
   rw [Int.mul_zero,Int.add_zero] at hv
   refine Wc.gl 18 [0] ?_
   have hcap:=hob.le
   refine Wl.freezeRow 0 rfl hob fun G1 hle1 hA=>?_
   refine Wl.k 2 rfl (gI _ _ _ _ _ ‹_› (by omega) ‹_›) fun v2 G2 Ho2 hle2 hp=>?_
   obtain ⟨tn2,rfl,htr2,rfl,rfl⟩:=hp
   refine Wl.ga 4 [1] ?_
   refine aT (.inr rfl) (Ho:=Hp.only _ []) rfl (.agg 1 rfl rfl T.agg190) (aC _ _) ?_
   refine ⟨⟨decide (n<0) && decide (0<tn2),subA o d 0 1,tn2,d⟩,rfl,?_,rfl⟩
   have e:=htr2.num hdr hA hcap (decide (n<0))
   have e2:(if decide (n<0)=true then -aD r else aD r)=n:=by
    rw [hv];by_cases h:n<0
    · rw [if_pos (by simpa using h)];omega
    rw [if_neg (by simpa using h)];omega
   rw [e2] at e;exact e
 refine Wc.gl 2 [] ?_
 refine Wl.alloc 1 rfl T.zero190 fun b1=>?_
 refine Wl.gl 5 [] ?_
 refine Wl.p (aI rfl T.u214 rfl (by omega)) ?_
 refine Wl.gc 20 [0] ?_
 refine Wc.loop (ι:=Int×List U32×(Option Addr×Nat×List Value)) (fun (u,r,(o,d,j))=>([(3,.int .u64 u),(4,.slice o r.length d),(2,.pointer (some ⟨b1,0,none⟩)),(0,.int .i64 n)],[(0,o.map (·.block),Row 215 r j),(1,some b1,.cells #[.bool Bool.false,.slice none 0 0] 190)])) (fun (u,r,(o,d,j))=>0≤u∧u≤9223372036854775808∧Digs r∧aD r+pw r.length*u=n.natAbs∧r.length≤4∧OwnA o d r j) (fun (u,r,(o,d,j))=>u.toNat) ((n,[],(none,0,[]))) (⟨by omega,by omega,Digs.nil,by rw [cR,List.length_nil,pL];omega,by decide,OwnA.nil⟩) ⟨rfl,rfl,rfl,rfl,trivial⟩ ⟨rfl,rfl,trivial⟩ fun ⟨u,r,(o,d,j)⟩=>fun hk=>?_
 obtain ⟨hu0,hu1,hdr,hv,hrl,hob⟩:=hk
 by_cases hu:0<u
 · have hl4:=aLU hv hdr hu (by omega)
   refine Wc.gl 15 [1] ?_
   refine Wl.p (cO rfl rfl (by omega)) ?_
   refine Wl.p (bX rfl T.u215 rfl (by omega)) ?_
   refine Wl.lit (α:=U32) 2 [⟨u % 65536⟩] rfl T.sl123 T.el215 rfl rfl rfl rfl rfl fun b2=>?_
   refine Wl.ap (α:=U32) 0 T.sl123 T.el215 (Src.row 2 rfl) fun a1 c1 junk1 ho1=>?_
   refine Wl.gl 5 [] ?_
   refine Wl.p (gW rfl rfl (by omega)) ?_
   refine Wl.ga 3 [] ?_
   refine aH ((u / 65536,_,(a1,c1,junk1))) ?_ ?_
   · exact ⟨by omega,by omega,jC hdr _,aFS hv,by rw [List.length_append];show r.length+1≤4;omega,ho1⟩
   show (u / 65536).toNat<u.toNat
   omega
 have hu:u=0:=by omega
 subst hu
 rw [Int.mul_zero,Int.add_zero] at hv
 refine Wc.gl 18 [0] ?_
 have hcap:=hob.le
 refine Wl.freezeRow 0 rfl hob fun G1 hle1 hA=>?_
 refine Wl.k 2 rfl (gI _ _ _ _ _ ‹_› (by omega) ‹_›) fun v2 G2 Ho2 hle2 hp=>?_
 obtain ⟨tn2,rfl,htr2,rfl,rfl⟩:=hp
 refine Wl.ga 4 [1] ?_
 refine aT (.inr rfl) (Ho:=Hp.only _ []) rfl (.agg 1 rfl rfl T.agg190) (aC _ _) ?_
 refine ⟨⟨decide (n<0) && decide (0<tn2),subA o d 0 1,tn2,d⟩,rfl,?_,rfl⟩
 have e:=htr2.num hdr hA hcap (decide (n<0))
 have e2:(if decide (n<0)=true then -aD r else aD r)=n:=by
  rw [hv];by_cases h:n<0
  · rw [if_pos (by simpa using h)];omega
  rw [if_neg (by simpa using h)];omega
 rw [e2] at e;exact e
theorem c267 (G:Imm) (n1 n2:Bool) (a b:Option Addr) (ca cb:Nat) (la lb:List U32) (x y:Int) (ha:Arr G a la) (hb:Arr G b lb) (hx:IsInt n1 la x) (hy:IsInt n2 lb y) (h1:la.length≤1073741824) (h2:lb.length≤1073741824) :
 Does Tryz.prog 267 [.agg #[.bool n1,.slice a la.length ca],.agg #[.bool n2,.slice b lb.length cb]] G [] (fun v G' Ho=>∃ r:IV,v=.agg #[.bool r.neg,.slice r.a r.n r.c]∧Num G' r (x+y)∧Ho=[]):=by
 have da:=hx.digs
 have db:=hy.digs
 have ta:=hx.top
 have tb:=hy.top
 refine D0 Tryz.func267 Tryz.ntmps267 fun w=>?_
 by_cases hs:n1=n2
 · refine Wc.gl 2 [] ?_
   refine Wl.x 0 fun b1=>?_
   refine Wl.x 1 fun b2=>?_
   refine Wl.alloc 2 rfl T.zero190 fun b3=>?_
   refine Wl.gl 9 [0,1] ?_
   refine Wl.p (lH T.u4 rfl rfl) ?_
   refine Wl.gc 4 [1] ?_
   refine aN [0,1,2] [(2,8)] T.mixed [[0],[1,0],[2],[3,0],[4],[5,1]] ?_
   refine Gm.o1 6 ?_
   refine Wl.k 3 rfl (c277 _ _ _ _ _ _ _ ‹_› ‹_› ‹_› ‹_› ‹_› ‹_›) fun v1 G1 Ho1 hle1 hp=>?_
   obtain ⟨po1,pc1,pr1,pj1,rfl,hpo1,rfl,rfl,hpd1,hpv1,hpl1⟩:=hp
   refine Wl.o1 7 ?_
   have hcap:=hpo1.le
   refine Wl.freezeRow 3 rfl hpo1 fun G9 hle9 hA=>?_
   refine Wl.k 4 rfl (gI _ _ _ _ _ ‹_› (by omega) ‹_›) fun v2 G2 Ho2 hle2 hp=>?_
   obtain ⟨tn2,rfl,htr2,rfl,rfl⟩:=hp
   refine Wl.o1 8 ?_
   refine aA 1 [2] ?_
   refine aZ ?_
   refine Ar.ga 3 [] ?_
   refine aT (.inr rfl) (Ho:=Hp.only _ []) rfl (.agg 2 rfl rfl T.agg190) (aC _ _) ?_
   refine ⟨⟨n1 && decide (0<tn2),subA po1 pc1 0 1,tn2,pc1⟩,rfl,?_,rfl⟩
   have e:=htr2.num hpd1 hA hcap n1
   have e2:(if n1=true then -aD pr1 else aD pr1)=x+y:=by
    rw [hpv1,hx.val,hy.val]
    revert hs
    cases n1 <;> cases n2 <;> simp <;> omega
   rw [e2] at e;exact e
 by_cases hle:aD lb≤aD la
 · have hcmp:0≤bL (aD la) (aD lb):=by
    rcases Int.lt_or_eq_of_le hle with h | h
    · rw [iU h];decide
    rw [nK h.symm];decide
   have hll:lb.length≤la.length:=by
    rcases Nat.lt_or_ge la.length lb.length with h | h
    · have:=jJ da db tb h;omega
    exact h
   refine Wc.gl 2 [] ?_
   refine Wl.x 0 fun b1=>?_
   refine Wl.x 1 fun b2=>?_
   refine Wl.alloc 2 rfl T.zero190 fun b3=>?_
   refine Wl.gl 9 [0,1] ?_
   refine Wl.p (lH T.u4 rfl rfl) ?_
   refine Wl.gl 12 [0,0,1] ?_
   refine Wl.k0 rfl (aLT _ _ _ _ _ _ _ ‹_› ‹_› ‹_› ‹_› ‹_› ‹_› ‹_› ‹_›) ?_
   refine Wl.gc 5 [1] ?_
   refine aN [0,1,2] [(2,8)] T.mixed [[0],[1,0],[2],[3,0],[4],[5,1]] ?_
   refine Gm.o1 6 ?_
   refine Wl.k 3 rfl (c278 _ _ _ _ _ _ _ ‹_› ‹_› ‹_› ‹_› ‹_› ‹_› ‹_›) fun v1 G1 Ho1 hle1 hp=>?_
   obtain ⟨po1,pc1,pr1,pj1,rfl,hpo1,rfl,rfl,hpd1,hpv1,hpl1⟩:=hp
   refine Wl.o1 7 ?_
   have hcap:=hpo1.le
   refine Wl.freezeRow 3 rfl hpo1 fun G9 hle9 hA=>?_
   refine Wl.k 4 rfl (gI _ _ _ _ _ ‹_› (by omega) ‹_›) fun v2 G2 Ho2 hle2 hp=>?_
   obtain ⟨tn2,rfl,htr2,rfl,rfl⟩:=hp
   refine Wl.o1 8 ?_
   refine aA 1 [2] ?_
   refine aZ ?_
   refine Ar.ga 3 [] ?_
   refine aT (.inr rfl) (Ho:=Hp.only _ []) rfl (.agg 2 rfl rfl T.agg190) (aC _ _) ?_
   refine ⟨⟨n1 && decide (0<tn2),subA po1 pc1 0 1,tn2,pc1⟩,rfl,?_,rfl⟩
   have e:=htr2.num hpd1 hA hcap n1
   have e2:(if n1=true then -aD pr1 else aD pr1)=x+y:=by
    rw [hpv1,hx.val,hy.val]
    revert hs
    cases n1 <;> cases n2 <;> simp <;> omega
   rw [e2] at e;exact e
 have hcmp:¬0≤bL (aD la) (aD lb):=by rw [iC (by omega)];decide
 have hge9:aD la≤aD lb:=by omega
 have hll:la.length≤lb.length:=by
  rcases Nat.lt_or_ge lb.length la.length with h | h
  · have:=jJ db da ta h;omega
  exact h
 refine Wc.gl 2 [] ?_
 refine Wl.x 0 fun b1=>?_
 refine Wl.x 1 fun b2=>?_
 refine Wl.alloc 2 rfl T.zero190 fun b3=>?_
 refine Wl.gl 9 [0,1] ?_
 refine Wl.p (lH T.u4 rfl rfl) ?_
 refine Wl.gl 12 [0,0,1] ?_
 refine Wl.k0 rfl (aLT _ _ _ _ _ _ _ ‹_› ‹_› ‹_› ‹_› ‹_› ‹_› ‹_› ‹_›) ?_
 refine Wl.gc 7 [0] ?_
 refine aN [0,1,2] [(2,8)] T.mixed [[0],[1,1],[2],[3,1],[4],[5,0]] ?_
 refine Gm.o1 6 ?_
 refine Wl.k 3 rfl (c278 _ _ _ _ _ _ _ ‹_› ‹_› ‹_› ‹_› ‹_› ‹_› ‹_›) fun v1 G1 Ho1 hle1 hp=>?_
 obtain ⟨po1,pc1,pr1,pj1,rfl,hpo1,rfl,rfl,hpd1,hpv1,hpl1⟩:=hp
 refine Wl.o1 7 ?_
 have hcap:=hpo1.le
 refine Wl.freezeRow 3 rfl hpo1 fun G9 hle9 hA=>?_
 refine Wl.k 4 rfl (gI _ _ _ _ _ ‹_› (by omega) ‹_›) fun v2 G2 Ho2 hle2 hp=>?_
 obtain ⟨tn2,rfl,htr2,rfl,rfl⟩:=hp
 refine Wl.o1 8 ?_
 refine aA 1 [2] ?_
 refine aZ ?_
 refine Ar.ga 2 [] ?_
 refine aT (.inr rfl) (Ho:=Hp.only _ []) rfl (.agg 2 rfl rfl T.agg190) (aC _ _) ?_
 refine ⟨⟨n2 && decide (0<tn2),subA po1 pc1 0 1,tn2,pc1⟩,rfl,?_,rfl⟩
 have e:=htr2.num hpd1 hA hcap n2
 have e2:(if n2=true then -aD pr1 else aD pr1)=x+y:=by
  rw [hpv1,hx.val,hy.val]
  revert hs
  cases n1 <;> cases n2 <;> simp <;> omega
 rw [e2] at e;exact e
theorem c281 (G:Imm) (n1 n2:Bool) (a b:Option Addr) (ca cb:Nat) (la lb:List U32) (x y:Int) (ha:Arr G a la) (hb:Arr G b lb) (hx:IsInt n1 la x) (hy:IsInt n2 lb y) (h1:la.length≤1073741824) (h2:lb.length≤1073741824) (hcb:lb.length≤cb) :
 Does Tryz.prog 281 [.agg #[.bool n1,.slice a la.length ca],.agg #[.bool n2,.slice b lb.length cb]] G [] (fun v G' Ho=>∃ r:IV,v=.agg #[.bool r.neg,.slice r.a r.n r.c]∧Num G' r (x - y)∧Ho=[]):=by
 refine D0 Tryz.func281 Tryz.ntmps281 fun w=>?_
 refine Wc.gl 2 [] ?_
 refine Wl.x 0 fun b1=>?_
 refine Wl.x 1 fun b2=>?_
 refine Wl.alloc 2 rfl T.zero190 fun b3=>?_
 refine Wl.gc 3 [] ?_
 refine aN [0,1,2] [(2,4)] T.mixed [[0,0],[1,1]] ?_
 refine Gm.o1 2 ?_
 refine Wl.k 3 rfl (c285 _ _ _ _ _ _ ‹_› ‹_› ‹_› ‹_›) fun v1 G1 Ho1 hle1 hp=>?_
 obtain ⟨nr1,rfl,hnr1,rfl,rfl⟩:=hp
 refine Wl.o1 3 ?_
 obtain ⟨rn,ra,rk,rc⟩:=nr1
 obtain ⟨l,hl,hlc,hA,hI⟩:=hnr1
 simp only at hl hlc hA hI
 subst hl
 have hll:l.length≤lb.length:=hI.len (by
  have:=fO hy.digs
  rw [hy.abs] at this
  omega)
 refine Wl.k 20 rfl (c267 _ _ _ _ _ _ _ _ _ _ _ ha hA hx hI h1 (by omega)) fun v2 G2 Ho2 hle2 hp=>?_
 obtain ⟨r2,rfl,hr2,rfl⟩:=hp
 refine Wl.o1 4 ?_
 refine aA 1 [2] ?_
 refine aZ ?_
 refine Ar.ga 2 [] ?_
 refine aT (.inr rfl) (Ho:=Hp.only _ []) rfl (.agg 2 rfl rfl T.agg190) (aC _ _) ?_
 refine ⟨r2,rfl,?_,rfl⟩
 rw [Int.sub_eq_add_neg];exact hr2
theorem aFT (G:Imm) (x y:IV) (zx zy:Int) (hx:Num G x zx) (hy:Num G y zy) (h1:x.n≤1073741824) (h2:y.n≤1073741824) :
 Does Tryz.prog 267 [.agg (Cells.enc x).toArray,.agg (Cells.enc y).toArray] G [] (fun v G' Ho=>∃ r:IV,v=.agg (Cells.enc r).toArray∧Num G' r (zx+zy)∧Ho=[]):=by
 obtain ⟨n1,a,k1,ca⟩:=x
 obtain ⟨n2,b,k2,cb⟩:=y
 obtain ⟨la,hl,hlc,hA,hI⟩:=hx
 obtain ⟨lb,hl',hlc',hA',hI'⟩:=hy
 simp only at hl hlc hA hI hl' hlc' hA' hI' h1 h2
 subst hl hl'
 exact c267 G n1 n2 a b ca cb la lb zx zy hA hA' hI hI' h1 h2
theorem aFU (G:Imm) (x y:IV) (zx zy:Int) (hx:Num G x zx) (hy:Num G y zy) (h1:x.n≤1073741824) (h2:y.n≤1073741824) :
 Does Tryz.prog 167 [.agg (Cells.enc x).toArray,.agg (Cells.enc y).toArray] G [] (fun v G' Ho=>v=.int .i64 (bL zx zy)∧G'=G∧Ho=[]):=by
 obtain ⟨n1,a,k1,ca⟩:=x
 obtain ⟨n2,b,k2,cb⟩:=y
 obtain ⟨la,hl,hlc,hA,hI⟩:=hx
 obtain ⟨lb,hl',hlc',hA',hI'⟩:=hy
 simp only at hl hlc hA hI hl' hlc' hA' hI' h1 h2
 subst hl hl'
 exact c167 G n1 n2 a b ca cb la lb zx zy hA hA' hI hI' h1 h2
end
theorem pT:∀ (l:List U32) (k:Nat) (d:U32),k<l.length→aD (l.set k d)=aD l+pw k*(d.v - dg l k)
 | [],k,d,h=>by simp at h
 | x :: l,0,d,_=>by
   rw [List.set_cons_zero,dI,dI,pL]
   show _=_+1*(d.v - x.v)
   omega
 | x :: l,k+1,d,h=>by
   have ih:=pT l k d (by simpa using h)
   have e:dg (x :: l) (k+1)=dg l k:=by unfold dg;rw [Int.toNat_natCast,Int.toNat_natCast,List.getElem?_cons_succ]
   rw [List.set_cons_succ,dI,dI,ih,gF,e,Int.mul_add,←Int.mul_assoc]
   omega
theorem kP {l:List U32} (h:Digs l) (k:Nat) {s:Int} (hs:0≤s∧s<65536):Digs (l.set k ⟨s⟩):=fun d hd=>by
 rcases List.mem_or_eq_of_mem_set hd with h1 | h1
 · exact h d h1
 subst h1;exact hs
theorem aBJ {r lb:List U32} {i j:Nat} {c s x A:Int} (hk:i+j<r.length) (hv:aD r+pw (i+j)*c=A+pw i*(x*aD (lb.take j))) (hs:s=c+dg r (i+j)+x*dg lb j) :
 aD (r.set (i+j) ⟨s % 65536⟩)+pw (i+(j+1))*(s / 65536)=A+pw i*(x*aD (lb.take (j+1))):=by
 rw [pT r (i+j) ⟨s % 65536⟩ hk,dX,←Nat.add_assoc,gF]
 have h1:=aFQ (pw (i+j)) s
 have h2:pw (i+j)*s=pw (i+j)*c+pw (i+j)*dg r (i+j)+pw (i+j)*(x*dg lb j):=by rw [hs,Int.mul_add,Int.mul_add]
 have h3:pw i*(x*(aD (lb.take j)+pw j*dg lb j))=pw i*(x*aD (lb.take j))+pw (i+j)*(x*dg lb j):=by
  rw [Int.mul_add,Int.mul_add,aDS]
  congr 1
  rw [Int.mul_assoc,←Int.mul_assoc x,Int.mul_comm x (pw j),Int.mul_assoc]
 have h4:pw (i+j)*(s % 65536 - dg r (i+j))=pw (i+j)*(s % 65536) - pw (i+j)*dg r (i+j):=Int.mul_sub _ _ _
 show aD r+pw (i+j)*(s % 65536 - dg r (i+j))+65536*pw (i+j)*(s / 65536)=_
 rw [h3,h4]
 omega
theorem aFV {la lb:List U32} {i j:Nat} {v:Int} (hj:lb.length≤j) (h:v=aD (la.take i)*aD lb+pw i*(dg la i*aD (lb.take j))):v=aD (la.take (i+1))*aD lb:=by
 rw [h,aQ hj,dX,Int.add_mul,Int.mul_assoc]
theorem aRZ {a b c d:Int} (ha:0≤a) (hb:0≤b) (h1:a<c) (h2:b<d):a*b<c*d:=by
 have e1:a*b≤a*d:=Int.mul_le_mul_of_nonneg_left (Int.le_of_lt h2) ha
 have e2:a*d<c*d:=Int.mul_lt_mul_of_pos_right h1 (by omega)
 omega
theorem aIF {la lb r:List U32} {i j:Nat} {c:Int} (da:Digs la) (db:Digs lb) (hi:i<la.length) (hj:lb.length≤j) (hdr:Digs r) (hc:0<c) (hv:aD r+pw (i+j)*c=aD (la.take i)*aD lb+pw i*(dg la i*aD (lb.take j))):j≤lb.length:=by
 have h1:=aFV hj hv
 have h2:=fO (da.take (i+1))
 rw [List.length_take,Nat.min_eq_left (by omega)] at h2
 have h3:=aRZ (cH (da.take (i+1))) (cH db) h2 (fO db)
 rw [←aDS] at h3
 have h4:=cH hdr
 have h5:=Int.mul_le_mul_of_nonneg_left (show (1:Int)≤c by omega) (Int.le_of_lt (fQ (i+j)))
 have h6:pw (i+j)<pw (i+1+lb.length):=by omega
 have:=xP h6
 omega
theorem aBK {x y:Int} (hx:0≤x∧x<65536) (hy:0≤y∧y<65536):0≤x*y∧x*y≤4294836225:=by
 refine ⟨Int.mul_nonneg hx.1 hy.1,?_⟩
 have h1:x*y≤65535*y:=Int.mul_le_mul_of_nonneg_right (by omega) hy.1
 omega
section
attribute [local irreducible] aD pw bL
theorem c165 (G:Imm) (n1 n2:Bool) (a b:Option Addr) (ca cb:Nat) (la lb:List U32) (x y:Int) (ha:Arr G a la) (hb:Arr G b lb) (hx:IsInt n1 la x) (hy:IsInt n2 lb y) (h1:la.length≤536870912) (h2:lb.length≤536870912) :
 Does Tryz.prog 165 [.agg #[.bool n1,.slice a la.length ca],.agg #[.bool n2,.slice b lb.length cb]] G [] (fun v G' Ho=>∃ r:IV,v=.agg #[.bool r.neg,.slice r.a r.n r.c]∧Num G' r (x*y)∧Ho=[]):=by
 have da:=hx.digs
 have db:=hy.digs
 refine D0 Tryz.func165 Tryz.ntmps165 fun w=>?_
 refine Wc.gl 2 [] ?_
 refine Wl.x 0 fun b1=>?_
 refine Wl.x 1 fun b2=>?_
 refine Wl.alloc 2 rfl T.zero190 fun b3=>?_
 refine Wl.gl 12 [0,1] ?_
 refine Wl.make (α:=U32) 3 rfl T.sl123 T.el215 rfl rfl (by omega) (by omega) fun b4=>?_
 refine Wl.gc 10 [] ?_
 obtain ⟨N,hN⟩:∃ N,N=la.length+lb.length+1:=⟨_,rfl⟩
 have hM:((la.length:Int)+(lb.length:Int)+1).toNat=N:=by omega
 rw [hM]
 have hown:∀ r:List U32,r.length=N→OwnA (some ⟨b4,0,none⟩) N r []:=fun r hr=>.inr ⟨b4,rfl,by rw [hr];rfl,by omega,by simp only [maxLen];omega⟩
 refine Wc.re 5 rfl (show _=Value.slice (some ⟨b4,0,none⟩) (List.replicate N (default:U32)).length N by rw [List.length_replicate]) ?_
 refine Wc.lp (ι:=Nat×List U32) (fun (i,r)=>([(6,.int .i64 (i:Int)),(5,.slice (some ⟨b4,0,none⟩) r.length N),(4,.pointer (some (Addr.mk b3 0 none))),(3,.pointer (some ⟨b2,0,none⟩)),(2,.pointer (some ⟨b1,0,none⟩))],[(3,some b4,Row 215 r []),(2,some b3,.cells #[.bool Bool.false,.slice none 0 0] 190),(1,some b2,.cells #[.bool n2,.slice b (List.length lb) cb] 190),(0,some b1,.cells #[.bool n1,.slice a (List.length la) ca] 190)])) (fun (i,r)=>i≤la.length∧r.length=N∧Digs r∧aD r=aD (la.take i)*aD lb) (fun (i,r)=>la.length - i) ((0,List.replicate N (default:U32))) (⟨Nat.zero_le _,List.length_replicate,lM N,by rw [List.take_zero,cR,Int.zero_mul];exact jI N⟩) fun ⟨i,r⟩=>fun hk=>?_
 obtain ⟨hi,hrN,hdr,hv⟩:=hk
 rcases Nat.lt_or_ge i la.length with hia | hia
 · have hxi:0≤(la[((i:Nat):Int).toNat]?.getD default).v∧(la[((i:Nat):Int).toNat]?.getD default).v<65536:=kA da hia
   refine Wc.gc 26 [0,1] ?_
   refine Wc.lp (ι:=Nat×Int×List U32) (fun (j,c,s)=>([(8,.int .i64 (j:Int)),(7,.int .u64 c),(5,.slice (some ⟨b4,0,none⟩) s.length N),(2,.pointer (some ⟨b1,0,none⟩)),(6,.int .i64 (↑i:Int)),(4,.pointer (some (Addr.mk b3 0 none))),(3,.pointer (some ⟨b2,0,none⟩))],[(3,some b4,Row 215 s []),(2,some b3,.cells #[.bool Bool.false,.slice none 0 0] 190),(1,some b2,.cells #[.bool n2,.slice b (List.length lb) cb] 190),(0,some b1,.cells #[.bool n1,.slice a (List.length la) ca] 190)])) (fun (j,c,s)=>0≤c∧c≤65535∧s.length=N∧Digs s∧aD s+pw (i+j)*c=aD (la.take i)*aD lb+pw i*(dg la i*aD (lb.take j))∧j≤lb.length+1) (fun (j,c,s)=>lb.length+1 - j) ((0,0,r)) (⟨by decide,by decide,hrN,hdr,by rw [Int.mul_zero,List.take_zero,cR,Int.mul_zero,Int.mul_zero,Int.add_zero,Int.add_zero];exact hv,Nat.zero_le _⟩) fun ⟨j,c,s⟩=>fun hk=>?_
   obtain ⟨hc0,hc1,hsN,hds,hvs,hjl⟩:=hk
   have hos:=hown s hsN
   have hbnd:lb.length≤j→0<c→j≤lb.length:=fun h1 h2=>aIF da db hia h1 hds h2 hvs
   have ekk:((i:Int)+(j:Int)).toNat=i+j:=by omega
   rcases Nat.lt_or_ge j lb.length with hjb | hjb
   · have hyj:0≤(lb[((j:Nat):Int).toNat]?.getD default).v∧(lb[((j:Nat):Int).toNat]?.getD default).v<65536:=kA db hjb
     have hxy:=aBK hxi hyj
     have hsk:0≤(s[((i:Int)+(j:Int)).toNat]?.getD default).v∧(s[((i:Int)+(j:Int)).toNat]?.getD default).v<65536:=hds.at (by omega)
     refine Wc.gl 9 [1] ?_
     refine lZ 30 ?_
     refine Wl.gl 17 [1] ?_
     refine bR (α:=U32) T.sl123 ?_
     refine Wl.lo 3 0 T.one215 ?_
     refine Wl.p (aI rfl T.u214 rfl (by omega)) ?_
     refine Wl.p (bV rfl rfl (by omega)) ?_
     refine Wl.gc 14 [1,1] ?_
     refine aN [0,1,2,3] [] T.mixed [[0],[1],[2,0],[3]] ?_
     refine Gm.at (α:=U32) 4 T.sl123 ?_
     refine gO 5 [0] 0 T.one215 ?_
     refine Gm.u 6 [] rfl (aI rfl T.u214 rfl (by omega)) ?_
     refine Gm.r [[7],[8,1],[9]] ?_
     refine Gm.at (α:=U32) 10 T.sl123 ?_
     refine gO 11 [0] 0 T.one215 ?_
     refine Gm.u 12 [] rfl (aI rfl T.u214 rfl (by omega)) ?_
     refine Gm.u 13 [] rfl (fW rfl rfl (by first | assumption | omega)) ?_
     refine Gm.u 14 [] rfl (bV rfl rfl (by omega)) ?_
     refine Gm.r [[15]] ?_
     refine Gm.fin ?_
     refine Ar.gl 8 [] ?_
     refine Wl.p (cO rfl rfl (by omega)) ?_
     refine Wl.p (bX rfl T.u215 rfl (by omega)) ?_
     refine bR (α:=U32) T.sl123 ?_
     refine bG (z:=_) 3 T.size215 rfl rfl rfl ‹_› (by omega) rfl fun ho1=>?_
     refine Wl.gl 4 [] ?_
     refine Wl.p (gW rfl rfl (by omega)) ?_
     refine Wl.ga 9 [] ?_
     rw [ekk] at ⊢ hsk
     refine Ar.re 5 rfl (show _=Value.slice (some ⟨b4,0,none⟩) (s.set (i+j) (⟨(c+(s[i+j]?.getD default).v+(la[((i:Nat):Int).toNat]?.getD default).v*(lb[((j:Nat):Int).toNat]?.getD default).v) % 65536⟩:U32)).length N by rw [List.length_set]) ?_
     refine aH ((j+1,(c+(s[i+j]?.getD default).v+(la[((i:Nat):Int).toNat]?.getD default).v*(lb[((j:Nat):Int).toNat]?.getD default).v) / 65536,s.set (i+j) (⟨(c+(s[i+j]?.getD default).v+(la[((i:Nat):Int).toNat]?.getD default).v*(lb[((j:Nat):Int).toNat]?.getD default).v) % 65536⟩:U32))) ?_ ?_
     · exact ⟨by omega,by omega,by rw [List.length_set];exact hsN,kP hds _ (by omega),aBJ (by omega) hvs (by simp only [dg,Int.toNat_natCast]),by omega⟩
     show lb.length+1 - (j+1)<lb.length+1 - j
     omega
   by_cases hcy:0<c
   · have hjle:=hbnd hjb hcy
     have hsk:0≤(s[((i:Int)+(j:Int)).toNat]?.getD default).v∧(s[((i:Int)+(j:Int)).toNat]?.getD default).v<65536:=hds.at (by omega)
     refine Wc.gl 9 [1] ?_
     refine dB 30 ?_
     refine Wl.gl 19 [1] ?_
     refine bR (α:=U32) T.sl123 ?_
     refine Wl.lo 3 0 T.one215 ?_
     refine Wl.p (aI rfl T.u214 rfl (by omega)) ?_
     refine Wl.p (bV rfl rfl (by omega)) ?_
     refine Wl.gl 23 [1,0] ?_
     refine Wl.p (cO rfl rfl (by omega)) ?_
     refine Wl.p (bX rfl T.u215 rfl (by omega)) ?_
     refine bR (α:=U32) T.sl123 ?_
     refine bG (z:=_) 3 T.size215 rfl rfl rfl ‹_› (by omega) rfl fun ho1=>?_
     refine Wl.gl 4 [] ?_
     refine Wl.p (gW rfl rfl (by omega)) ?_
     refine Wl.ga 9 [] ?_
     rw [ekk] at ⊢ hsk
     refine Ar.re 5 rfl (show _=Value.slice (some ⟨b4,0,none⟩) (s.set (i+j) (⟨(c+(s[i+j]?.getD default).v) % 65536⟩:U32)).length N by rw [List.length_set]) ?_
     refine aH ((j+1,(c+(s[i+j]?.getD default).v) / 65536,s.set (i+j) (⟨(c+(s[i+j]?.getD default).v) % 65536⟩:U32))) ?_ ?_
     · exact ⟨by omega,by omega,by rw [List.length_set];exact hsN,kP hds _ (by omega),aBJ (by omega) hvs (by rw [rH hjb,Int.mul_zero,Int.add_zero];simp only [dg,Int.toNat_natCast]),by omega⟩
     show lb.length+1 - (j+1)<lb.length+1 - j
     omega
   have hc:c=0:=by omega
   subst hc
   rw [Int.mul_zero,Int.add_zero] at hvs
   refine Wc.gl 9 [1] ?_
   refine dB 30 ?_
   refine Wl.ga 19 [0] ?_
   refine aH ((i+1,s)) ?_ ?_
   · exact ⟨by omega,hsN,hds,aFV hjb hvs⟩
   show la.length - (i+1)<la.length - i
   omega
 have hor:=hown r hrN
 rw [aQ hia] at hv
 refine Wc.gl 22 [0,0,0,1] ?_
 refine Wl.p (pB T.u4 rfl rfl) ?_
 refine aA 1 [] ?_
 have hcap:=hor.le
 refine Wl.freezeRow 3 rfl hor fun G9 hle9 hA=>?_
 refine Wl.k 4 rfl (gI _ _ _ _ _ ‹_› (by omega) ‹_›) fun v1 G1 Ho1 hle1 hp=>?_
 obtain ⟨tn1,rfl,htr1,rfl,rfl⟩:=hp
 refine Wl.ga 4 [2] ?_
 refine aT (.inr rfl) (Ho:=Hp.only _ []) rfl (.agg 2 rfl rfl T.agg190) (aC _ _) ?_
 refine ⟨⟨decide (n1≠n2) && decide (0<tn1),subA (some ⟨b4,0,none⟩) N 0 1,tn1,N⟩,rfl,?_,rfl⟩
 have e:=htr1.num hdr hA hcap (decide (n1≠n2))
 have e2:(if decide (n1≠n2)=true then -aD r else aD r)=x*y:=by
  rw [hv,hx.val,hy.val]
  cases n1 <;> cases n2 <;> simp [Int.neg_mul,Int.mul_neg]
 rw [e2] at e;exact e
theorem aFW (G:Imm) (x y:IV) (zx zy:Int) (hx:Num G x zx) (hy:Num G y zy) (h1:x.n≤536870912) (h2:y.n≤536870912) :
 Does Tryz.prog 165 [.agg (Cells.enc x).toArray,.agg (Cells.enc y).toArray] G [] (fun v G' Ho=>∃ r:IV,v=.agg (Cells.enc r).toArray∧Num G' r (zx*zy)∧Ho=[]):=by
 obtain ⟨n1,a,k1,ca⟩:=x
 obtain ⟨n2,b,k2,cb⟩:=y
 obtain ⟨la,hl,hlc,hA,hI⟩:=hx
 obtain ⟨lb,hl',hlc',hA',hI'⟩:=hy
 simp only at hl hlc hA hI hl' hlc' hA' hI' h1 h2
 subst hl hl'
 exact c165 G n1 n2 a b ca cb la lb zx zy hA hA' hI hI' h1 h2
end
theorem c161 (G:Imm) (op:Int):Does Tryz.prog 161 [.int .i64 op] G [] (fun v G' Ho=>v=.bool (decide (op=3∨op=4))∧G'=G∧Ho=[]):=by
 refine D0 Tryz.func161 Tryz.ntmps161 fun w=>?_
 refine Wc.gl 10 [] ?_
 apply aG 3 5 8 rfl
 intro hg1
 refine aA 5 [] ?_
 exact Wl.b 3 0
 intro hg1
 refine aA 3 [] ?_
 exact Wl.b 3 0
 refine Wl.ga 4 [] ?_
 refine Ar.e1 ?_
 exact ⟨by simp,rfl,rfl⟩
def lQ (op c:Int):Bool:=
 if op=5∨op=6 then decide (c≠0∧-512≤c∧c≤512) else if op=7∨op=8 then decide (1≤c∧c≤64) else decide (c=0)
theorem c162 (G:Imm) (i:Sl.Instr):Does Tryz.prog 162 [.agg (Cells.enc i).toArray] G [] (fun v G' Ho=>v=.bool (decide (lQ i.op i.c=true))∧G'=G∧Ho=[]):=by
 refine D0 Tryz.func162 Tryz.ntmps162 fun w=>?_
 refine Wc.gl 2 [] ?_
 refine Wl.x 0 fun b1=>?_
 refine Wl.gc 18 [0] ?_
 refine Wc.i (fun hc1=>?_) fun hc1=>?_
 refine Wc.gl 9 [1,0] ?_
 apply aM 4 11 15 rfl
 intro hg1
 refine aA 7 [0] ?_
 exact Wl.b 4 0
 intro hg1
 refine aA 4 [] ?_
 exact Wl.b 4 0
 refine aA 1 [] ?_
 apply aM 4 16 20 rfl
 intro hg1
 refine aA 7 [0] ?_
 exact Wl.b 4 0
 intro hg1
 refine aA 4 [] ?_
 exact Wl.b 4 0
 refine Wl.ga 6 [] ?_
 refine Ar.e1 ?_
 rotate_left
 refine Wc.gc 5 [] ?_
 refine Wc.i (fun hc2=>?_) fun hc2=>?_
 refine Wc.gl 6 [0] ?_
 apply aM 4 11 15 rfl
 intro hg1
 refine aA 7 [0] ?_
 exact Wl.b 4 0
 intro hg1
 refine aA 4 [] ?_
 exact Wl.b 4 0
 refine aA 1 [] ?_
 apply aM 4 16 20 rfl
 intro hg1
 refine aA 7 [0] ?_
 exact Wl.b 4 0
 intro hg1
 refine aA 4 [] ?_
 exact Wl.b 4 0
 refine Wl.ga 6 [] ?_
 refine Ar.e1 ?_
 rotate_left
 refine Wc.gc 7 [] ?_
 refine Wc.i (fun hc3=>?_) fun hc3=>?_
 refine Wc.gl 9 [1,0] ?_
 apply aM 4 27 31 rfl
 intro hg1
 refine aA 7 [0] ?_
 exact Wl.b 4 0
 intro hg1
 refine aA 4 [] ?_
 exact Wl.b 4 0
 refine Wl.ga 6 [] ?_
 refine Ar.e1 ?_
 rotate_left
 refine Wc.gc 5 [] ?_
 refine Wc.i (fun hc4=>?_) fun hc4=>?_
 refine Wc.gl 6 [0] ?_
 apply aM 4 27 31 rfl
 intro hg1
 refine aA 7 [0] ?_
 exact Wl.b 4 0
 intro hg1
 refine aA 4 [] ?_
 exact Wl.b 4 0
 refine Wl.ga 6 [] ?_
 refine Ar.e1 ?_
 rotate_left
 refine Wc.ga 12 [0] ?_
 refine Ar.e1 ?_
 rotate_left
 all_goals refine ⟨?_,rfl,rfl⟩
 all_goals simp [lQ, *]
 all_goals first | (split <;> first | rfl | omega) | omega | (simp only [Bool.and_assoc];rfl) | (simp only [Bool.and_assoc]) | skip
def gN (i:Sl.Instr):List Int:=if i.op=3∨i.op=4 then [i.a,i.b] else if 1≤i.op∧i.op≤8 then [i.a] else []
theorem c83 (G:Imm) (i:Sl.Instr):Does Tryz.prog 83 [.agg (Cells.enc i).toArray] G [] (fun v G' Ho=>∃ a c junk,v=.slice a (gN i).length c∧OwnA a c (gN i) junk∧Ho=[(1,a.map (·.block),Row 3 (gN i) junk)]∧G'=G):=by
 refine D0 Tryz.func83 Tryz.ntmps83 fun w=>?_
 refine Wc.gl 2 [] ?_
 refine Wl.x 0 fun b1=>?_
 refine Wl.gc 18 [0] ?_
 refine Wc.i (fun hc1=>?_) fun hc1=>?_
 refine Wc.gl 9 [1,0,0] ?_
 refine Wl.lit (α:=Int) 1 [(Go.Sl.Instr.a i),(Go.Sl.Instr.b i)] rfl T.sl24 T.el3 rfl rfl rfl rfl rfl fun b2=>?_
 refine Wl.ga 6 [] ?_
 rotate_left
 refine Wc.gc 5 [] ?_
 refine Wc.i (fun hc2=>?_) fun hc2=>?_
 refine Wc.gl 6 [0,0] ?_
 refine Wl.lit (α:=Int) 1 [(Go.Sl.Instr.a i),(Go.Sl.Instr.b i)] rfl T.sl24 T.el3 rfl rfl rfl rfl rfl fun b2=>?_
 refine Wl.ga 6 [] ?_
 rotate_left
 refine Wc.gc 7 [] ?_
 refine Wc.i (fun hc3=>?_) fun hc3=>?_
 refine Wc.gl 7 [1,0] ?_
 refine Wl.lit (α:=Int) 1 [(Go.Sl.Instr.a i)] rfl T.sl24 T.el3 rfl rfl rfl rfl rfl fun b2=>?_
 refine Wl.ga 6 [] ?_
 rotate_left
 refine Wc.gc 6 [] ?_
 refine Wc.i (fun hc4=>?_) fun hc4=>?_
 refine Wc.gl 7 [1,0] ?_
 refine Wl.lit (α:=Int) 1 [(Go.Sl.Instr.a i)] rfl T.sl24 T.el3 rfl rfl rfl rfl rfl fun b2=>?_
 refine Wl.ga 6 [] ?_
 rotate_left
 refine Wc.gc 6 [] ?_
 refine Wc.i (fun hc5=>?_) fun hc5=>?_
 refine Wc.gl 7 [1,0] ?_
 refine Wl.lit (α:=Int) 1 [(Go.Sl.Instr.a i)] rfl T.sl24 T.el3 rfl rfl rfl rfl rfl fun b2=>?_
 refine Wl.ga 6 [] ?_
 rotate_left
 refine Wc.gc 6 [] ?_
 refine Wc.i (fun hc6=>?_) fun hc6=>?_
 refine Wc.gl 7 [1,0] ?_
 refine Wl.lit (α:=Int) 1 [(Go.Sl.Instr.a i)] rfl T.sl24 T.el3 rfl rfl rfl rfl rfl fun b2=>?_
 refine Wl.ga 6 [] ?_
 rotate_left
 refine Wc.gc 6 [] ?_
 refine Wc.i (fun hc7=>?_) fun hc7=>?_
 refine Wc.gl 7 [1,0] ?_
 refine Wl.lit (α:=Int) 1 [(Go.Sl.Instr.a i)] rfl T.sl24 T.el3 rfl rfl rfl rfl rfl fun b2=>?_
 refine Wl.ga 6 [] ?_
 rotate_left
 refine Wc.gc 5 [] ?_
 refine Wc.i (fun hc8=>?_) fun hc8=>?_
 refine Wc.gl 4 [0] ?_
 refine Wl.lit (α:=Int) 1 [(Go.Sl.Instr.a i)] rfl T.sl24 T.el3 rfl rfl rfl rfl rfl fun b2=>?_
 refine Wl.ga 6 [] ?_
 rotate_left
 refine Wc.ga 9 [] ?_
 rotate_left
 rotate_right
 · have h:gN i=[]:=by unfold gN;rw [if_neg (by omega),if_neg (by omega)]
   refine aHO 1 (Row 3 ([]:List Int) []) ?_
   refine Ar.p1 [1] ?_
   rw [h];exact ⟨_,_,_,rfl,OwnA.nil,rfl,rfl⟩
 all_goals first | refine aT (.inr rfl) (Ho:=Hp.only _ [1]) rfl (.tmp rfl) (aC _ _) ?_
 all_goals first
  | (have h:gN i=[i.a,i.b]:=by unfold gN;rw [if_pos (by omega)]
     rw [h];exact ⟨_,_,_,rfl,dV (by simp [maxLen]),rfl,rfl⟩)
  | (have h:gN i=[i.a]:=by unfold gN;rw [if_neg (by omega),if_pos (by omega)]
     rw [h];exact ⟨_,_,_,rfl,dV (by simp [maxLen]),rfl,rfl⟩)
  | skip
def gP (i:Sl.Instr) (regs:Int):Bool:=
 decide (1≤i.op∧i.op≤8∧0≤i.to∧i.to<regs∧(i.op=3∨i.op=4∨i.b=0)) && lQ i.op i.c && (gN i).all fun r=>decide (0≤r∧r<regs)
theorem mT {α:Type} [Inhabited α] (p:α→Bool) {l:List α} {k:Nat} (h:k<l.length):(l.take (k+1)).all p=((l.take k).all p && p (l[((k:Nat):Int).toNat]?.getD default)):=by
 have:l.take (k+1)=l.take k++[l[((k:Nat):Int).toNat]?.getD default]:=by
  rw [List.take_add_one,Int.toNat_natCast,List.getElem?_eq_getElem h];rfl
 rw [this,List.all_append];simp
theorem c112 (G:Imm) (i:Sl.Instr) (regs:Int):Does Tryz.prog 112 [.agg (Cells.enc i).toArray,.int .i64 regs] G [] (fun v G' Ho=>v=.bool (decide (gP i regs=true))∧G'=G∧Ho=[]):=by
 refine D0 Tryz.func112 Tryz.ntmps112 fun w=>?_
 refine Wc.gl 2 [] ?_
 refine Wl.x 0 fun b1=>?_
 refine Wl.gl 10 [0] ?_
 apply aG 4 10 14 rfl
 intro hg1
 refine aA 7 [0] ?_
 exact Wl.b 4 0
 intro hg1
 refine aA 4 [] ?_
 exact Wl.b 4 0
 refine aA 1 [] ?_
 apply aG 4 15 19 rfl
 intro hg1
 refine aA 7 [0] ?_
 exact Wl.b 4 0
 intro hg1
 refine aA 4 [] ?_
 exact Wl.b 4 0
 refine aA 1 [] ?_
 apply aG 5 20 25 rfl
 intro hg1
 refine aA 9 [0] ?_
 exact Wl.b 5 0
 intro hg1
 refine aA 5 [] ?_
 exact Wl.b 5 0
 refine aA 1 [] ?_
 apply aG 10 26 36 rfl
 intro hg1
 refine aA 5 [0] ?_
 refine Wl.k0 rfl (c161 _ _) ?_
 refine aA 1 [] ?_
 refine Wl.p (aW rfl) ?_
 refine aA 2 [] ?_
 apply aM 4 31 35 rfl
 intro hg1
 refine aA 8 [0] ?_
 exact Wl.b 4 0
 intro hg1
 refine aA 5 [] ?_
 exact Wl.b 4 0
 refine aA 1 [] ?_
 exact Wl.b 7 0
 intro hg1
 refine aA 5 [] ?_
 refine uE rfl rfl rfl ?_
 refine uE rfl rfl rfl ?_
 refine uE rfl rfl rfl ?_
 refine aA 2 [] ?_
 exact Wl.b 10 0
 refine aA 1 [] ?_
 apply aG 4 37 41 rfl
 intro hg1
 refine aA 3 [0] ?_
 refine Wl.k0 rfl (c162 _ _) ?_
 refine aA 1 [] ?_
 refine Wl.p (aW rfl) ?_
 refine aA 1 [] ?_
 exact Wl.b 4 0
 intro hg1
 refine aA 4 [] ?_
 exact Wl.b 4 0
 refine Wl.gc 2 [] ?_
 refine Wc.i (fun hc1=>?_) fun hc1=>?_
 refine Wc.ga 7 [] ?_
 refine Ar.e1 ?_
 rotate_left
 refine Wc.gl 6 [0] ?_
 refine Wl.k 1 rfl (c83 _ _) fun v1 G1 Ho1 hle1 hp=>?_
 obtain ⟨ad1,cd1,junk1,rfl,hoa1,rfl,rfl⟩:=hp
 refine Wl.gc 5 [] ?_
 rotate_left
 · refine ⟨?_,rfl,rfl⟩
   have:gP i regs=false:=by
    unfold gP
    rcases hc1 with ((((h | h) | h) | h) | h) | h
    all_goals first | (rw [decide_eq_false (by omega)];rfl) | simp [h]
   simp [this]
 have hasks:(gN i).length≤2:=by unfold gN;split <;> (try split) <;> simp
 refine Wc.lp (ι:=Nat) (fun k=>([(45,.int .i64 (k:Int)),(44,.int .i64 (↑(List.length (gN i)):Int)),(43,.slice ad1 (List.length (gN i)) cd1),(1,.int .i64 regs)],[(2,Option.map (fun x=>Go.Addr.block x) ad1,Row (α:=Int) 3 (gN i) (junk1)),(0,some b1,.cells (List.toArray (Cells.enc i)) 91)])) (fun k=>k≤(gN i).length∧((gN i).take k).all (fun r=>decide (0≤r∧r<regs))=true) (fun k=>(gN i).length - k) (0) (⟨Nat.zero_le _,rfl⟩) fun k=>fun hk=>?_
 obtain ⟨hk1,hk2⟩:=hk
 refine Wc.gc 6 [] ?_
 refine Wc.i (fun hc2=>?_) fun hc2=>?_
 refine Wc.gl 6 [] ?_
 refine bR (α:=Int) T.sl24 ?_
 refine Wl.lo 2 0 T.one3 ?_
 refine Wl.gl 8 [] ?_
 apply aG 4 51 55 rfl
 intro hg1
 refine aA 7 [] ?_
 exact Wl.b 4 0
 intro hg1
 refine aA 4 [] ?_
 exact Wl.b 4 0
 refine Wl.gc 2 [] ?_
 refine Wc.i (fun hc3=>?_) fun hc3=>?_
 refine Wc.ga 11 [] ?_
 refine Ar.e1 ?_
 rotate_left
 refine Wc.ga 7 [] ?_
 rotate_left
 refine Wc.ga 11 [] ?_
 refine Ar.e1 ?_
 rotate_left
 · refine ⟨?_,rfl,rfl⟩
   have hl:k<(gN i).length:=by omega
   have hx:(gN i)[((k:Nat):Int).toNat]?.getD default∈gN i:=by rw [Int.toNat_natCast,List.getElem?_eq_getElem hl];simp
   have hf:((gN i).all fun r=>decide (0≤r∧r<regs))=false:=by
    rw [List.all_eq_false]
    exact ⟨_,hx,by simp only [decide_eq_true_eq];omega⟩
   have:gP i regs=false:=by unfold gP;rw [hf];simp
   simp [this]
 · refine aH (k+1) ?_ ?_
   · refine ⟨by omega,?_⟩
     rw [mT _ (by omega),hk2]
     simp only [Bool.true_and,decide_eq_true_eq]
     omega
   omega
 refine ⟨?_,rfl,rfl⟩
 have hk:k=(gN i).length:=by omega
 subst hk
 rw [List.take_length] at hk2
 have:gP i regs=true:=by
  unfold gP
  rw [hk2]
  simp only [not_or] at hc1
  simp only [Bool.and_true,Bool.and_eq_true,decide_eq_true_eq]
  refine ⟨by omega,?_⟩
  have:=hc1.2
  simpa using this
 simp [this]
structure PV where
 ins:Int
 regs:Int
 code:List Sl.Instr
 outs:List Int
def fH (p:PV):Bool:=decide (1≤p.ins∧p.ins≤p.regs∧p.regs≤128∧p.code.length≤16384∧1≤p.outs.length∧p.outs.length≤128) && p.outs.all fun r=>decide (0≤r∧r<p.regs)
def sI (p:PV):Option Nat:=p.code.findIdx? fun i=>!gP i p.regs
def dM (p:PV):Int×Bool:=if fH p=false then (-1,true) else match sI p with | some k=>(k,true) | none=>(0,false)
theorem aBL {α:Type} [Inhabited α] {p:α→Bool} {l:List α} {k:Nat} (h:k<l.length) (h1:(l.take k).all p=true) (h2:¬p (l[((k:Nat):Int).toNat]?.getD default)=true):l.findIdx? (fun i=>!p i)=some k:=by
 rw [List.findIdx?_eq_some_iff_getElem]
 rw [Int.toNat_natCast,List.getElem?_eq_getElem h,Option.getD_some] at h2
 refine ⟨h,by simpa using h2,fun j hj=>?_⟩
 have hm:l[j]'(by omega)∈l.take k:=by rw [List.mem_take_iff_getElem];exact ⟨j,by omega,rfl⟩
 have:=List.all_eq_true.1 h1 _ hm
 simpa using this
theorem xQ {α:Type} {p:α→Bool} {l:List α} (h1:l.all p=true):l.findIdx? (fun i=>!p i)=none:=by
 rw [List.findIdx?_eq_none_iff]
 intro x hx
 simpa using List.all_eq_true.1 h1 x hx
theorem c56 (G:Imm) (p:PV) (ac ao:Option Addr) (cc co:Nat) (hc:Arr G ac p.code) (ho:Arr G ao p.outs) (h1:p.code.length≤1099511627776) (h2:p.outs.length≤1099511627776) :
 Does Tryz.prog 56 [.agg #[.int .i64 p.ins,.int .i64 p.regs,.slice ac p.code.length cc,.slice ao p.outs.length co]] G [] (fun v G' Ho=>v=.tuple #[.int .i64 (dM p).1,.int .i64 (if (dM p).2 then 80 else 0)]∧G'=G∧Ho=[]):=by
 refine D0 Tryz.func56 Tryz.ntmps56 fun w=>?_
 refine Wc.gl 2 [] ?_
 refine Wl.x 0 fun b1=>?_
 refine Wl.gl 11 [0] ?_
 apply aG 6 11 17 rfl
 intro hg1
 refine aA 11 [0,0] ?_
 exact Wl.b 6 0
 intro hg1
 refine aA 6 [] ?_
 exact Wl.b 6 0
 refine aA 1 [] ?_
 apply aG 4 18 22 rfl
 intro hg1
 refine aA 7 [0] ?_
 exact Wl.b 4 0
 intro hg1
 refine aA 4 [] ?_
 exact Wl.b 4 0
 refine aA 1 [] ?_
 apply aG 5 23 28 rfl
 intro hg1
 refine aA 9 [0] ?_
 exact Wl.b 5 0
 intro hg1
 refine aA 5 [] ?_
 exact Wl.b 5 0
 refine aA 1 [] ?_
 apply aG 5 29 34 rfl
 intro hg1
 refine aA 9 [0] ?_
 exact Wl.b 5 0
 intro hg1
 refine aA 5 [] ?_
 exact Wl.b 5 0
 refine aA 1 [] ?_
 apply aG 5 35 40 rfl
 intro hg1
 refine aA 9 [0] ?_
 exact Wl.b 5 0
 intro hg1
 refine aA 5 [] ?_
 exact Wl.b 5 0
 refine Wl.gc 2 [] ?_
 refine Wc.i (fun hc1=>?_) fun hc1=>?_
 refine Wc.ga 8 [] ?_
 refine Ar.e2 ?_
 rotate_left
 refine Wc.gc 12 [0] ?_
 rotate_left
 · refine ⟨?_,rfl,rfl⟩
   have:fH p=false:=by unfold fH;rw [decide_eq_false (by omega)];rfl
   simp [dM,this]
 refine Wc.lp (ι:=Nat) (fun k=>([(44,.int .i64 (k:Int)),(43,.int .i64 (↑(List.length (PV.outs p)):Int)),(42,.slice ao (List.length (PV.outs p)) co),(1,.pointer (some ⟨b1,0,none⟩))],[(0,some b1,.cells #[.int .i64 (PV.ins p),.int .i64 (PV.regs p),.slice ac (List.length (PV.code p)) cc,.slice ao (List.length (PV.outs p)) co] 26)])) (fun k=>k≤p.outs.length∧(p.outs.take k).all (fun r=>decide (0≤r∧r<p.regs))=true) (fun k=>p.outs.length - k) (0) (⟨Nat.zero_le _,rfl⟩) fun k=>fun hk=>?_
 obtain ⟨hk1,hk2⟩:=hk
 refine Wc.gc 6 [] ?_
 refine Wc.i (fun hc2=>?_) fun hc2=>?_
 refine Wc.gl 6 [] ?_
 refine Wl.at (α:=Int) T.sl24 ?_
 refine bM 0 T.one3 ?_
 refine Wl.gl 8 [] ?_
 apply aG 5 50 55 rfl
 intro hg1
 refine aA 9 [0] ?_
 exact Wl.b 5 0
 intro hg1
 refine aA 5 [] ?_
 exact Wl.b 5 0
 refine Wl.gc 2 [] ?_
 refine Wc.i (fun hc3=>?_) fun hc3=>?_
 refine Wc.ga 12 [] ?_
 refine Ar.e2 ?_
 rotate_left
 refine Wc.ga 7 [] ?_
 rotate_left
 refine Wc.gc 15 [0] ?_
 rotate_left
 · refine ⟨?_,rfl,rfl⟩
   have hl:k<p.outs.length:=by omega
   have hx:p.outs[((k:Nat):Int).toNat]?.getD default∈p.outs:=by rw [Int.toNat_natCast,List.getElem?_eq_getElem hl];simp
   have hf:(p.outs.all fun r=>decide (0≤r∧r<p.regs))=false:=by
    rw [List.all_eq_false]
    exact ⟨_,hx,by simp only [decide_eq_true_eq];omega⟩
   have:fH p=false:=by unfold fH;rw [hf,Bool.and_false]
   simp [dM,this]
 · refine aH (k+1) ?_ ?_
   · refine ⟨by omega,?_⟩
     rw [mT _ (by omega),hk2]
     simp only [Bool.true_and,decide_eq_true_eq]
     omega
   omega
 have hk:k=p.outs.length:=by omega
 subst hk
 rw [List.take_length] at hk2
 have hh:fH p=true:=by
  unfold fH
  rw [hk2,Bool.and_true,decide_eq_true_eq]
  omega
 clear hk1 hk2 hc2
 refine Wc.lp (ι:=Nat) (fun k=>([(60,.int .i64 (k:Int)),(59,.int .i64 (↑(List.length (PV.code p)):Int)),(58,.slice ac (List.length (PV.code p)) cc),(1,.pointer (some ⟨b1,0,none⟩))],[(0,some b1,.cells #[.int .i64 (PV.ins p),.int .i64 (PV.regs p),.slice ac (List.length (PV.code p)) cc,.slice ao (List.length (PV.outs p)) co] 26)])) (fun k=>k≤p.code.length∧(p.code.take k).all (fun i=>gP i p.regs)=true) (fun k=>p.code.length - k) (0) (⟨Nat.zero_le _,rfl⟩) fun k=>fun hk=>?_
 obtain ⟨hk1,hk2⟩:=hk
 refine Wc.gc 6 [] ?_
 refine Wc.i (fun hc2=>?_) fun hc2=>?_
 refine Wc.gl 7 [] ?_
 refine Wl.at (α:=Instr) T.sl23 ?_
 refine Wl.le T.agg91 ?_
 refine Wl.alloc 1 rfl T.zero91 fun b2=>?_
 refine Wl.gl 9 [1,1,0] ?_
 refine Wl.k0 rfl (c112 _ _ _) ?_
 refine Wl.p (aW rfl) ?_
 refine Wl.gc 2 [] ?_
 refine Wc.i (fun hc3=>?_) fun hc3=>?_
 refine Wc.ga 13 [] ?_
 refine Ar.e2 ?_
 rotate_left
 refine Wc.ga 7 [] ?_
 rotate_left
 refine Wc.ga 12 [] ?_
 refine Ar.e2 ?_
 rotate_left
 · refine ⟨?_,rfl,rfl⟩
   have hl:k<p.code.length:=by omega
   have:sI p=some k:=aBL hl hk2 hc3
   simp [dM,hh,this]
 · refine aH (k+1) ?_ ?_
   · refine ⟨by omega,?_⟩
     rw [mT _ (by omega),hk2]
     simpa using hc3
   omega
 refine ⟨?_,rfl,rfl⟩
 have hk:k=p.code.length:=by omega
 subst hk
 rw [List.take_length] at hk2
 have:sI p=none:=xQ hk2
 simp [dM,hh,this]
def aP (p:PV):Bool:=!(dM p).2
theorem aIG (i:Sl.Instr) (regs:Int):gP i regs=true↔(1≤i.op∧i.op≤8∧0≤i.to∧i.to<regs∧0≤i.a∧i.a<regs)∧
 (if i.op=3∨i.op=4 then 0≤i.b∧i.b<regs∧i.c=0 else i.b=0∧(if i.op=5∨i.op=6 then i.c≠0∧-512≤i.c∧i.c≤512 else if i.op=7∨i.op=8 then 1≤i.c∧i.c≤64 else i.c=0)):=by
 unfold gP lQ gN
 by_cases h3:i.op=3∨i.op=4
 · have h5:¬(i.op=5∨i.op=6):=by omega
   have h7:¬(i.op=7∨i.op=8):=by omega
   simp only [if_pos h3,if_neg h5,if_neg h7,List.all_cons,List.all_nil,Bool.and_true,Bool.and_eq_true,decide_eq_true_eq]
   omega
 by_cases h1:1≤i.op∧i.op≤8
 · simp only [if_neg h3,if_pos h1,List.all_cons,List.all_nil,Bool.and_true,Bool.and_eq_true,decide_eq_true_eq]
   by_cases h5:i.op=5∨i.op=6
   · simp only [if_pos h5,decide_eq_true_eq];omega
   by_cases h7:i.op=7∨i.op=8
   · simp only [if_neg h5,if_pos h7,decide_eq_true_eq];omega
   simp only [if_neg h5,if_neg h7,decide_eq_true_eq];omega
 simp only [if_neg h3,if_neg h1,List.all_nil,Bool.and_true,Bool.and_eq_true,decide_eq_true_eq]
 constructor <;> (intro h;omega)
theorem c163 (G:Imm) (i:Sl.Instr) (regs:Int):Does Tryz.prog 163 [.agg (Cells.enc i).toArray,.int .i64 regs] G [] (fun v G' Ho=>v=.bool (decide (gP i regs=true))∧G'=G∧Ho=[]):=by
 refine D0 Tryz.func163 Tryz.ntmps163 fun w=>?_
 refine Wc.gl 2 [] ?_
 refine Wl.x 0 fun b1=>?_
 refine Wl.gl 10 [0] ?_
 apply aG 4 8 12 rfl
 intro hg1
 refine aA 7 [0] ?_
 exact Wl.b 4 0
 intro hg1
 refine aA 4 [] ?_
 exact Wl.b 4 0
 refine aA 1 [] ?_
 apply aG 4 13 17 rfl
 intro hg1
 refine aA 7 [0] ?_
 exact Wl.b 4 0
 intro hg1
 refine aA 4 [] ?_
 exact Wl.b 4 0
 refine aA 1 [] ?_
 apply aG 5 18 23 rfl
 intro hg1
 refine aA 9 [0] ?_
 exact Wl.b 5 0
 intro hg1
 refine aA 5 [] ?_
 exact Wl.b 5 0
 refine aA 1 [] ?_
 apply aG 4 24 28 rfl
 intro hg1
 refine aA 7 [0] ?_
 exact Wl.b 4 0
 intro hg1
 refine aA 4 [] ?_
 exact Wl.b 4 0
 refine aA 1 [] ?_
 apply aG 5 29 34 rfl
 intro hg1
 refine aA 9 [0] ?_
 exact Wl.b 5 0
 intro hg1
 refine aA 5 [] ?_
 exact Wl.b 5 0
 refine Wl.gc 2 [] ?_
 refine Wc.i (fun hc1=>?_) fun hc1=>?_
 refine Wc.ga 7 [] ?_
 refine Ar.e1 ?_
 rotate_left
 refine Wc.gl 9 [0] ?_
 apply aG 4 38 42 rfl
 intro hg1
 refine aA 7 [0] ?_
 exact Wl.b 4 0
 intro hg1
 refine aA 4 [] ?_
 exact Wl.b 4 0
 refine Wl.gc 2 [] ?_
 refine Wc.i (fun hc2=>?_) fun hc2=>?_
 refine Wc.gl 6 [0] ?_
 apply aM 5 46 51 rfl
 intro hg1
 refine aA 9 [0] ?_
 exact Wl.b 5 0
 intro hg1
 refine aA 5 [] ?_
 exact Wl.b 5 0
 refine aA 1 [] ?_
 apply aM 4 52 56 rfl
 intro hg1
 refine aA 7 [0] ?_
 exact Wl.b 4 0
 intro hg1
 refine aA 4 [] ?_
 exact Wl.b 4 0
 refine Wl.ga 5 [] ?_
 refine Ar.e1 ?_
 rotate_left
 refine Wc.gc 10 [0] ?_
 refine Wc.i (fun hc3=>?_) fun hc3=>?_
 refine Wc.ga 7 [] ?_
 refine Ar.e1 ?_
 rotate_left
 refine Wc.gl 9 [0] ?_
 apply aG 4 63 67 rfl
 intro hg1
 refine aA 7 [0] ?_
 exact Wl.b 4 0
 intro hg1
 refine aA 4 [] ?_
 exact Wl.b 4 0
 refine Wl.gc 2 [] ?_
 refine Wc.i (fun hc4=>?_) fun hc4=>?_
 refine Wc.gl 6 [0] ?_
 apply aM 4 71 75 rfl
 intro hg1
 refine aA 7 [0] ?_
 exact Wl.b 4 0
 intro hg1
 refine aA 4 [] ?_
 exact Wl.b 4 0
 refine aA 1 [] ?_
 apply aM 4 76 80 rfl
 intro hg1
 refine aA 7 [0] ?_
 exact Wl.b 4 0
 intro hg1
 refine aA 4 [] ?_
 exact Wl.b 4 0
 refine Wl.ga 5 [] ?_
 refine Ar.e1 ?_
 rotate_left
 refine Wc.gl 9 [0] ?_
 apply aG 4 84 88 rfl
 intro hg1
 refine aA 7 [0] ?_
 exact Wl.b 4 0
 intro hg1
 refine aA 4 [] ?_
 exact Wl.b 4 0
 refine Wl.gc 2 [] ?_
 refine Wc.i (fun hc5=>?_) fun hc5=>?_
 refine Wc.gl 6 [0] ?_
 apply aM 4 92 96 rfl
 intro hg1
 refine aA 7 [0] ?_
 exact Wl.b 4 0
 intro hg1
 refine aA 4 [] ?_
 exact Wl.b 4 0
 refine Wl.ga 5 [] ?_
 refine Ar.e1 ?_
 rotate_left
 refine Wc.ga 11 [0] ?_
 refine Ar.e1 ?_
 rotate_left
 all_goals refine ⟨?_,rfl,rfl⟩
 all_goals simp only [aIG,Value.bool.injEq]
 all_goals first | rw [decide_eq_decide] | (symm;rw [decide_eq_false_iff_not])
 all_goals try simp only [*,if_true,if_false,not_false_eq_true]
 all_goals first | omega | (rintro ⟨_,h,_⟩;first | exact h | exact hc3 h)
theorem aBM {p:PV} {k:Nat} (h:k≤p.outs.length) (h':(k:Int)<(p.outs.length:Int)) (hb:p.outs[((k:Nat):Int).toNat]?.getD default<0∨p.regs≤p.outs[((k:Nat):Int).toNat]?.getD default):fH p=false:=by
 have hl:k<p.outs.length:=by omega
 have hx:p.outs[((k:Nat):Int).toNat]?.getD default∈p.outs:=by rw [Int.toNat_natCast,List.getElem?_eq_getElem hl];simp
 have hf:(p.outs.all fun r=>decide (0≤r∧r<p.regs))=false:=by
  rw [List.all_eq_false]
  exact ⟨_,hx,by simp only [decide_eq_true_eq];omega⟩
 unfold fH;rw [hf,Bool.and_false]
theorem c113 (G:Imm) (p:PV) (ac ao:Option Addr) (cc co:Nat) (hc:Arr G ac p.code) (ho:Arr G ao p.outs) (h1:p.code.length≤1099511627776) (h2:p.outs.length≤1099511627776) :
 Does Tryz.prog 113 [.agg #[.int .i64 p.ins,.int .i64 p.regs,.slice ac p.code.length cc,.slice ao p.outs.length co]] G [] (fun v G' Ho=>v=.tuple #[.int .i64 (dM p).1,.bool (decide ((dM p).2=true))]∧G'=G∧Ho=[]):=by
 refine D0 Tryz.func113 Tryz.ntmps113 fun w=>?_
 refine Wc.gl 2 [] ?_
 refine Wl.x 0 fun b1=>?_
 refine Wl.gl 11 [0] ?_
 apply aG 6 9 15 rfl
 intro hg1
 refine aA 11 [0,0] ?_
 exact Wl.b 6 0
 intro hg1
 refine aA 6 [] ?_
 exact Wl.b 6 0
 refine aA 1 [] ?_
 apply aG 4 16 20 rfl
 intro hg1
 refine aA 7 [0] ?_
 exact Wl.b 4 0
 intro hg1
 refine aA 4 [] ?_
 exact Wl.b 4 0
 refine aA 1 [] ?_
 apply aG 5 21 26 rfl
 intro hg1
 refine aA 9 [0] ?_
 exact Wl.b 5 0
 intro hg1
 refine aA 5 [] ?_
 exact Wl.b 5 0
 refine aA 1 [] ?_
 apply aG 5 27 32 rfl
 intro hg1
 refine aA 9 [0] ?_
 exact Wl.b 5 0
 intro hg1
 refine aA 5 [] ?_
 exact Wl.b 5 0
 refine aA 1 [] ?_
 apply aG 5 33 38 rfl
 intro hg1
 refine aA 9 [0] ?_
 exact Wl.b 5 0
 intro hg1
 refine aA 5 [] ?_
 exact Wl.b 5 0
 refine Wl.gc 2 [] ?_
 refine Wc.i (fun hc1=>?_) fun hc1=>?_
 refine Wc.ga 8 [] ?_
 refine Ar.e2 ?_
 rotate_left
 refine Wc.gc 9 [] ?_
 rotate_left
 · refine ⟨?_,rfl,rfl⟩
   have:fH p=false:=by unfold fH;rw [decide_eq_false (by omega)];rfl
   simp [dM,this]
 refine Wc.lp (ι:=Nat) (fun k=>([(4,.int .i64 (k:Int)),(1,.pointer (some ⟨b1,0,none⟩))],[(0,some b1,.cells #[.int .i64 (PV.ins p),.int .i64 (PV.regs p),.slice ac (List.length (PV.code p)) cc,.slice ao (List.length (PV.outs p)) co] 26)])) (fun k=>k≤p.outs.length∧(p.outs.take k).all (fun r=>decide (0≤r∧r<p.regs))=true) (fun k=>p.outs.length - k) (0) (⟨Nat.zero_le _,rfl⟩) fun k=>fun hk=>?_
 obtain ⟨hk1,hk2⟩:=hk
 refine Wc.gc 10 [0] ?_
 refine Wc.i (fun hc2=>?_) fun hc2=>?_
 refine Wc.gc 5 [] ?_
 refine aN [0] [] T.mixed [[0],[1,0],[2]] ?_
 refine Gm.at (α:=Int) 3 T.sl24 ?_
 refine gO 4 [0] 0 T.one3 ?_
 refine Gm.r [[5],[6]] ?_
 refine Gm.cases 52 rfl (fun hg1=>?_) fun hg1=>?_
 refine Gm.r [[7],[8],[9],[10],[11],[12],[13],[14],[15]] ?_
 refine Gm.fin ?_
 refine Ar.ga 14 [1] ?_
 refine Ar.e2 ?_
 rotate_left
 refine Gm.r [[7],[8,0],[9]] ?_
 refine Gm.y 10 [] rfl (Qy.at (α:=Int) T.sl24 rfl rfl ‹_› (by omega)) ?_
 refine Gm.y 11 [0] rfl (aL T.one3 rfl (Arr.cell ‹_› (by omega) 0 rfl rfl)) ?_
 refine Gm.r [[12],[13,0],[14],[15]] ?_
 refine Gm.fin ?_
 refine Ar.next ?_
 refine Wc.i (fun hc3=>?_) fun hc3=>?_
 refine Wc.ga 12 [] ?_
 refine Ar.e2 ?_
 rotate_left
 refine Wc.ga 8 [] ?_
 rotate_left
 refine Wc.gc 12 [] ?_
 rotate_left
 · refine ⟨?_,rfl,rfl⟩
   simp [dM,aBM hk1 hc2 (.inl hg1)]
 · refine ⟨?_,rfl,rfl⟩
   simp [dM,aBM hk1 hc2 (.inr hc3)]
 · refine aH (k+1) ?_ ?_
   · refine ⟨by omega,?_⟩
     rw [mT _ (by omega),hk2]
     simp only [Bool.true_and,decide_eq_true_eq]
     omega
   omega
 have hk:k=p.outs.length:=by omega
 subst hk
 rw [List.take_length] at hk2
 have hh:fH p=true:=by
  unfold fH
  rw [hk2,Bool.and_true,decide_eq_true_eq]
  omega
 clear hk1 hk2 hc2
 refine Wc.lp (ι:=Nat) (fun k=>([(5,.int .i64 (k:Int)),(1,.pointer (some ⟨b1,0,none⟩))],[(0,some b1,.cells #[.int .i64 (PV.ins p),.int .i64 (PV.regs p),.slice ac (List.length (PV.code p)) cc,.slice ao (List.length (PV.outs p)) co] 26)])) (fun k=>k≤p.code.length∧(p.code.take k).all (fun i=>gP i p.regs)=true) (fun k=>p.code.length - k) (0) (⟨Nat.zero_le _,rfl⟩) fun k=>fun hk=>?_
 obtain ⟨hk1,hk2⟩:=hk
 refine Wc.gc 10 [0] ?_
 refine Wc.i (fun hc2=>?_) fun hc2=>?_
 refine Wc.gc 5 [] ?_
 refine aN [0] [] T.mixed [[0],[1,0],[2]] ?_
 refine Gm.at (α:=Instr) 3 T.sl23 ?_
 refine Gm.le 4 T.agg91 ?_
 refine Gm.r [[5],[6,0]] ?_
 refine Gm.o1 7 ?_
 refine Wl.k0 rfl (c163 _ _ _) ?_
 refine aO ?_
 refine Gm.u 8 [] rfl (aW rfl) ?_
 refine Gm.fin ?_
 refine Ar.next ?_
 refine Wc.i (fun hc3=>?_) fun hc3=>?_
 refine Wc.ga 13 [] ?_
 refine Ar.e2 ?_
 rotate_left
 refine Wc.ga 8 [] ?_
 rotate_left
 refine Wc.ga 12 [] ?_
 refine Ar.e2 ?_
 rotate_left
 · refine ⟨?_,rfl,rfl⟩
   have hl:k<p.code.length:=by omega
   have:sI p=some k:=aBL hl hk2 hc3
   simp [dM,hh,this]
 · refine aH (k+1) ?_ ?_
   · refine ⟨by omega,?_⟩
     rw [mT _ (by omega),hk2]
     simpa using hc3
   omega
 refine ⟨?_,rfl,rfl⟩
 have hk:k=p.code.length:=by omega
 subst hk
 rw [List.take_length] at hk2
 have:sI p=none:=xQ hk2
 simp [dM,hh,this]
theorem c57 (G:Imm) (p:PV) (ac ao:Option Addr) (cc co:Nat) (hc:Arr G ac p.code) (ho:Arr G ao p.outs) (h1:p.code.length≤1099511627776) (h2:p.outs.length≤1099511627776) :
 Does Tryz.prog 57 [.agg #[.int .i64 p.ins,.int .i64 p.regs,.slice ac p.code.length cc,.slice ao p.outs.length co]] G [] (fun v G' Ho=>v=.bool (decide (aP p=true))∧G'=G∧Ho=[]):=by
 refine D0 Tryz.func57 Tryz.ntmps57 fun w=>?_
 refine Wc.gl 2 [] ?_
 refine Wl.x 0 fun b1=>?_
 refine Wl.gl 6 [0] ?_
 refine Wl.k0 rfl (c113 _ _ _ _ _ _ ‹_› ‹_› (by omega) (by omega)) ?_
 refine Wl.gl 10 [] ?_
 refine Wl.p (aW rfl) ?_
 refine Wl.ga 4 [] ?_
 refine Ar.e1 ?_
 refine ⟨?_,rfl,rfl⟩
 cases h:(dM p).2 <;> simp [aP,h]
instance:DecidableEq PV:=fun a b=>by
 cases a;cases b;simp only [PV.mk.injEq];infer_instance
structure Tab where
 held:List Int
 known:List (K4×Int)
 first:List (K4×Int)
 next:Int
def start (p:PV):List Int:=(List.range p.regs.toNat).map fun r=>if (p.ins:Int)<((r:Nat):Int) then p.ins else ((r:Nat):Int)
theorem fX {p:PV} (h:aP p=true):1≤p.ins∧p.ins≤p.regs∧p.regs≤128∧p.code.length≤16384∧1≤p.outs.length∧p.outs.length≤128∧(∀ r∈p.outs,0≤r∧r<p.regs)∧(∀ i∈p.code,gP i p.regs=true):=by
 unfold aP dM at h
 by_cases hh:fH p=false
 · rw [if_pos hh] at h;cases h
 rw [if_neg hh] at h
 have hb:sI p=none:=by
  cases hb:sI p with
  | none=>rfl
  | some k=>rw [hb] at h;cases h
 have hh':fH p=true:=by simpa using hh
 unfold fH at hh'
 rw [Bool.and_eq_true,decide_eq_true_eq,List.all_eq_true] at hh'
 unfold sI at hb
 rw [List.findIdx?_eq_none_iff] at hb
 obtain ⟨⟨g1,g2,g3,g4,g5,g6⟩,g7⟩:=hh'
 refine ⟨g1,g2,g3,g4,g5,g6,fun r hr=>?_,fun i hi=>?_⟩
 · have:=g7 r hr;rw [decide_eq_true_eq] at this;exact this
 simpa using hb i hi
section
variable {t:Tab} {out:List Sl.Instr} {n:Int} {i:Sl.Instr}
end
theorem get_mem {l:List Int} {r:Int} (h:0≤r∧r<l.length):l[r.toNat]?.getD default∈l:=by
 have hlt:r.toNat<l.length:=by omega
 rw [List.getElem?_eq_getElem hlt];exact List.getElem_mem hlt
def p2 (n:Nat):Int:=((2 ^ n:Nat):Int)
theorem pU:p2 0=1:=rfl
theorem lS (n:Nat):p2 (n+1)=2*p2 n:=by unfold p2;rw [Nat.pow_succ,Nat.mul_comm,Int.natCast_mul];rfl
theorem gJ (n:Nat):0<p2 n:=by unfold p2;exact Int.ofNat_lt.2 (Nat.pow_pos (by decide))
theorem mU (m n:Nat):p2 (m+n)=p2 m*p2 n:=by unfold p2;rw [Nat.pow_add,Int.natCast_mul]
theorem aFX {m n:Nat} (h:m≤n):p2 m≤p2 n:=by unfold p2;exact Int.ofNat_le.2 (Nat.pow_le_pow_right (by decide) h)
theorem aIH {a b:Nat} (h:p2 a<p2 b):a<b:=by
 rcases Nat.lt_or_ge a b with h1 | h1
 · exact h1
 have:=aFX h1;omega
def cst (i:Sl.Instr):Int:=if i.op=5∨i.op=6 then i.c else p2 i.c.toNat
theorem aBN {i:Sl.Instr} (h:i.op=5∨i.op=6):cst i=i.c:=if_pos h
theorem aLV {i:Sl.Instr} (h:¬(i.op=5∨i.op=6)):cst i=p2 i.c.toNat:=if_neg h
theorem aBO (n:Nat):pw n=p2 (16*n):=by unfold pw p2;rw [Nat.pow_mul]
theorem aBP:p2 16=65536:=by unfold p2;decide
def dH (y:Int) (xs:List Int):Prop:=∀ i:Nat,i<xs.length→xs[i]?.getD 0 % y=0
instance (y:Int) (xs:List Int):Decidable (dH y xs):=by unfold dH;infer_instance
def doI (i:Sl.Instr) (rs:List (List Int)):Option (List Int):=
 let a:=rs[i.a.toNat]?.getD []
 if i.op=2 then some (a.map (fun x=>-1*x))
 else if i.op=3 then some (List.zipWith (fun x y=>x+1*y) a (rs[i.b.toNat]?.getD []))
 else if i.op=4 then some (List.zipWith (fun x y=>x+(-1)*y) a (rs[i.b.toNat]?.getD []))
 else if i.op=5∨i.op=7 then some (a.map (fun x=>cst i*x))
 else if i.op=6∨i.op=8 then (if dH (cst i) a then some (a.map (· / cst i)) else none)
 else some a
def fY (p:PV) (gs:List (List Int)):List (List Int):=(List.range p.regs.toNat).map fun k=>if k<gs.length then gs[k]?.getD [] else List.replicate (gs[0]?.getD []).length 0
def iJ (p:PV) (gs:List (List Int)):Nat→Option (List (List Int))
 | 0=>some (fY p gs)
 | k+1=>(iJ p gs k).bind fun rs=>(doI (p.code[((k:Nat):Int).toNat]?.getD default) rs).map fun x=>rs.set (p.code[((k:Nat):Int).toNat]?.getD default).to.toNat x
def dY (p:PV) (rs:List (List Int)):List (List Int):=p.outs.map fun r=>rs[r.toNat]?.getD []
def bP (p:PV) (gs:List (List Int)):Option (List (List Int)):=(iJ p gs p.code.length).map (dY p)
theorem oI {p:PV} {gs:List (List Int)} {k:Nat} {rs x:List (List Int)} {y:List Int} (h:iJ p gs k=some rs) (hd:doI (p.code[((k:Nat):Int).toNat]?.getD default) rs=some y) :
 iJ p gs (k+1)=some (rs.set (p.code[((k:Nat):Int).toNat]?.getD default).to.toNat y):=by
 unfold iJ;rw [h];simp only [Option.bind_some,hd,Option.map_some]
theorem aDY {p:PV} {gs:List (List Int)} {k:Nat} (h:iJ p gs k=none) (j:Nat):iJ p gs (k+j)=none:=by
 induction j with
 | zero=>exact h
 | succ j ih=>rw [←Nat.add_assoc];unfold iJ;rw [ih];rfl
theorem uN {p:PV} {gs:List (List Int)} {k:Nat} {rs:List (List Int)} (h:iJ p gs k=some rs) (hd:doI (p.code[((k:Nat):Int).toNat]?.getD default) rs=none) (hk:k<p.code.length):bP p gs=none:=by
 have h1:iJ p gs (k+1)=none:=by unfold iJ;rw [h];simp only [Option.bind_some,hd,Option.map_none]
 have h2:=aDY h1 (p.code.length - (k+1))
 rw [show k+1+(p.code.length - (k+1))=p.code.length by omega] at h2
 unfold bP;rw [h2];rfl
theorem aLW:∀ c:Nat,c≤64→((p2 c).natAbs:Int)<pw 5:=fun c hc=>by
 have h1:=aFX hc
 have h2:=gJ c
 have h3:p2 64<pw 5:=by unfold p2 pw;decide
 omega
theorem rI {i:Sl.Instr} {regs:Int} (h:gP i regs=true):(1≤i.op∧i.op≤8)∧(0≤i.to∧i.to<regs)∧(0≤i.a∧i.a<regs)∧(i.op=3∨i.op=4→0≤i.b∧i.b<regs)∧lQ i.op i.c=true∧
 (i.op≠1→i.op≠2→i.op≠3→i.op≠4→cst i≠0∧((cst i).natAbs:Int)<pw 5)∧(i.op=5∨i.op=6→-9223372036854775808≤i.c∧i.c≤9223372036854775807)∧(¬(i.op=5∨i.op=6)→0≤i.c∧i.c≤64):=by
 unfold gP at h
 rw [Bool.and_eq_true,Bool.and_eq_true,decide_eq_true_eq,List.all_eq_true] at h
 obtain ⟨⟨⟨g1,g2,g3,g4,g5⟩,g6⟩,g7⟩:=h
 have hA:∀ r∈gN i,0≤r∧r<regs:=fun r hr=>by have:=g7 r hr;rwa [decide_eq_true_eq] at this
 have ha:i.a∈gN i:=by
  unfold gN
  split
  · exact List.mem_cons_self
  rw [if_pos ⟨g1,g2⟩];exact List.mem_cons_self
 have hc:=g6
 unfold lQ at g6
 have k1:i.op=5∨i.op=6→i.c≠0∧-512≤i.c∧i.c≤512:=fun h=>by rw [if_pos h,decide_eq_true_eq] at g6;exact g6
 have k2:¬(i.op=5∨i.op=6)→(i.op=7∨i.op=8→1≤i.c∧i.c≤64)∧(¬(i.op=7∨i.op=8)→i.c=0):=fun h=>by
  rw [if_neg h] at g6
  refine ⟨fun h2=>?_,fun h2=>?_⟩
  · rw [if_pos h2,decide_eq_true_eq] at g6;exact g6
  rw [if_neg h2,decide_eq_true_eq] at g6;exact g6
 refine ⟨⟨g1,g2⟩,⟨g3,g4⟩,hA _ ha,fun h34=>hA _ (by unfold gN;rw [if_pos h34];exact List.mem_cons_of_mem _ List.mem_cons_self),hc,fun n1 n2 n3 n4=>?_,fun h56=>by have:=k1 h56;omega,fun h56=>?_⟩
 · by_cases h56:i.op=5∨i.op=6
   · rw [aBN h56]
     have:=k1 h56
     have h3:(65536:Int)<pw 5:=by unfold pw;decide
     exact ⟨this.1,by omega⟩
   rw [aLV h56]
   have h2:=(k2 h56).1 (by omega)
   have:=gJ i.c.toNat
   exact ⟨by omega,aLW _ (by omega)⟩
 by_cases h78:i.op=7∨i.op=8
 · have:=(k2 h56).1 h78;omega
 have:=(k2 h56).2 h78;omega
theorem nN (p:PV) (gs:List (List Int)):(fY p gs).length=p.regs.toNat:=by unfold fY;rw [List.length_map,List.length_range]
theorem pV {p:PV} {gs:List (List Int)} {k:Nat} (hk:k<p.regs.toNat):(fY p gs)[k]?.getD []=if k<gs.length then gs[k]?.getD [] else List.replicate (gs[0]?.getD []).length 0:=by
 unfold fY
 rw [List.getElem?_map,List.getElem?_range hk];rfl
theorem aLX {l:List U32} {m:Nat} (h0:0<l.length) (hd:Digs l) (hm:dg l (l.length - 1)<p2 m):aD l<p2 (16*(l.length - 1)+m):=by
 have e:=dX l (l.length - 1)
 rw [Nat.sub_add_cancel h0,aQ (Nat.le_refl _)] at e
 have h1:=fO (hd.take (l.length - 1))
 rw [List.length_take,Nat.min_eq_left (by omega)] at h1
 have h2:=Int.mul_le_mul_of_nonneg_left (show dg l (l.length - 1)+1≤p2 m by omega) (Int.le_of_lt (fQ (l.length - 1)))
 rw [Int.mul_add,Int.mul_one] at h2
 rw [mU,←aBO]
 omega
theorem aPW (t:Int) (m:Nat):t / 2*p2 (m+1)≤t*p2 m:=by
 rw [lS,←Int.mul_assoc]
 exact Int.mul_le_mul_of_nonneg_right (by omega) (Int.le_of_lt (gJ m))
theorem aPX (t:Int) (m:Nat):(t+1)*p2 m≤(t / 2+1)*p2 (m+1):=by
 rw [lS,←Int.mul_assoc]
 exact Int.mul_le_mul_of_nonneg_right (by omega) (Int.le_of_lt (gJ m))
section
attribute [local irreducible] aD pw bL p2
theorem c283 (G:Imm) (a:Option Addr) (c:Nat) (l:List U32) (ha:Arr G a l) (hd:Digs l) (h1:l.length≤536870912) :
 Does Tryz.prog 283 [.slice a l.length c] G [] (fun v G' Ho=>∃ n:Nat,v=.int .i64 (n:Int)∧aD l<p2 n∧n≤16*l.length∧G'=G∧Ho=[]):=by
 refine D0 Tryz.func283 Tryz.ntmps283 fun w=>?_
 by_cases h0:l.length=0
 · refine Wc.ga 21 [1] ?_
   refine Ar.e1 ?_
   refine ⟨0,rfl,?_,Nat.zero_le _,rfl,rfl⟩
   rw [List.eq_nil_of_length_eq_zero h0,cR,pU];decide
 have hlast:(l[((l.length:Int) - 1).toNat]?.getD default).v=dg l (l.length - 1):=by
  unfold dg;rw [show ((l.length:Int) - 1).toNat=((l.length - 1:Nat):Int).toNat by omega]
 have hdl:=kA hd (i:=l.length - 1) (by omega)
 refine Wc.gl 21 [0] ?_
 refine Wl.p (Qy.mul rfl rfl (by omega)) ?_
 refine Wl.gl 9 [] ?_
 refine Wl.at (α:=U32) T.sl123 ?_
 refine bM 0 T.one215 ?_
 refine Wl.gc 5 [] ?_
 refine Wc.re 4 rfl (show _=Value.int .u32 (dg l (l.length - 1)) by rw [hlast]) (Wc.re 3 rfl (show _=Value.int .i64 (16*((l.length:Int) - 1)+((0:Nat):Int)) by rw [Int.natCast_zero,Int.add_zero]) ?_)
 refine Wc.lp (ι:=Nat×Int) (fun (m,t)=>([(3,.int .i64 (16*((l.length:Int) - 1)+(m:Int))),(4,.int .u32 t),(2,.int .i64 0)],[])) (fun (m,t)=>0≤t∧t≤65535∧t*p2 m≤dg l (l.length - 1)∧dg l (l.length - 1)<(t+1)*p2 m∧m≤16) (fun (m,t)=>t.toNat) ((0,dg l (l.length - 1))) (⟨hdl.1,by omega,by rw [pU];omega,by rw [pU];omega,by decide⟩) fun ⟨m,t⟩=>fun hk=>?_
 obtain ⟨ht0,ht1,hlo,hhi,hm⟩:=hk
 by_cases ht:0<t
 · have hm15:m<16:=by
    refine aIH ?_
    have h2:=Int.mul_le_mul_of_nonneg_right (show (1:Int)≤t by omega) (Int.le_of_lt (gJ m))
    rw [aBP];omega
   refine Wc.gl 20 [1] ?_
   refine Wl.p (iX rfl rfl (by omega)) ?_
   refine Wl.ga 3 [] ?_
   refine Ar.re 3 rfl (show _=Value.int .i64 (16*((l.length:Int) - 1)+((m+1:Nat):Int)) by congr 1;omega) ?_
   refine aH ((m+1,t / 2)) ?_ ?_
   · exact ⟨by omega,by omega,Int.le_trans (aPW t m) hlo,Int.lt_of_lt_of_le hhi (aPX t m),by omega⟩
   show (t / 2).toNat<t.toNat
   omega
 have htz:t=0:=by omega
 subst htz
 rw [Int.zero_add,Int.one_mul] at hhi
 refine Wc.ga 20 [0] ?_
 refine Ar.e1 ?_
 refine ⟨16*(l.length - 1)+m,?_,aLX (by omega) hd hhi,by omega,rfl,rfl⟩
 congr 1;omega
theorem aPY {l:List U32} (hd:Digs l) {k:Nat} (hk:k<16*l.length):aD l / p2 k % 2=dg l (k / 16) / p2 (k % 16) % 2:=by
 have hq:k / 16<l.length:=by omega
 have e:=nM l (m:=k / 16+1) (by omega)
 rw [dX] at e
 have h1:=fO (hd.take (k / 16))
 have h0:=cH (hd.take (k / 16))
 rw [List.length_take,Nat.min_eq_left (by omega)] at h1
 have ek:p2 k=pw (k / 16)*p2 (k % 16):=by rw [aBO,←mU,Nat.div_add_mod]
 have e2:aD l=aD (l.take (k / 16))+(dg l (k / 16)+65536*aD (l.drop (k / 16+1)))*pw (k / 16):=by
  rw [e,gF,Int.add_mul,Int.mul_comm (dg l (k / 16)),Int.mul_assoc 65536 (pw (k / 16)),Int.mul_assoc 65536 (aD _),Int.mul_comm (aD (l.drop _)) (pw _)]
  omega
 have e3:aD l / pw (k / 16)=dg l (k / 16)+65536*aD (l.drop (k / 16+1)):=by
  rw [e2,Int.add_mul_ediv_right _ _ (Int.ne_of_gt (fQ _)),Int.ediv_eq_zero_of_lt h0 h1,Int.zero_add]
 rw [ek,←Int.ediv_ediv_of_nonneg (Int.le_of_lt (fQ _)),e3]
 obtain ⟨r,hr⟩:∃ r,16=k % 16+(r+1):=⟨15 - k % 16,by omega⟩
 have e4:p2 16=p2 (k % 16)*(2*p2 r):=(congrArg p2 hr).trans (by rw [mU,lS])
 rw [aBP] at e4
 have e5:65536*aD (l.drop (k / 16+1))=p2 (k % 16)*(2*(p2 r*aD (l.drop (k / 16+1)))):=by rw [e4,Int.mul_assoc,Int.mul_assoc]
 rw [e5,Int.add_mul_ediv_left _ _ (Int.ne_of_gt (gJ _))]
 omega
theorem aLY {x y:Int} (hy:0≤y):x.fdiv y=x / y:=Int.fdiv_eq_ediv_of_nonneg x hy
theorem c284 (G:Imm) (a:Option Addr) (c:Nat) (l:List U32) (k:Nat) (ha:Arr G a l) (hd:Digs l) (h1:l.length≤536870912) (hk:k<16*l.length) :
 Does Tryz.prog 284 [.slice a l.length c,.int .i64 (k:Int)] G [] (fun v G' Ho=>v=.int .u32 (aD l / p2 k % 2)∧G'=G∧Ho=[]):=by
 have hq:k / 16<l.length:=by omega
 have hdg:=kA hd hq
 refine D0 Tryz.func284 Tryz.ntmps284 fun w=>?_
 refine Wc.gl 9 [] ?_
 refine Wl.p (fN rfl rfl (by omega)) ?_
 refine Wl.at (α:=U32) T.sl123 ?_
 refine bM 0 T.one215 ?_
 refine aA 1 [] ?_
 refine Wl.p (cO rfl rfl (by omega)) ?_
 refine Wl.p (Qy.shr rfl rfl (by omega)) ?_
 refine Wl.p (eD rfl rfl) ?_
 refine Wl.ga 4 [] ?_
 refine Ar.e1 ?_
 refine ⟨?_,rfl,rfl⟩
 have e1:(l[((k:Int) / 16).toNat]?.getD default).v=dg l (k / 16):=by
  unfold dg;rw [show ((k:Int) / 16).toNat=((k / 16:Nat):Int).toNat by omega]
 have e2:(2:Int) ^ min ((k:Int) % 16).toNat IntKind.u32.bits=p2 (k % 16):=by
  have e:min ((k:Int) % 16).toNat IntKind.u32.bits=k % 16:=by
   rw [show IntKind.u32.bits=32 from rfl];omega
  rw [e,show p2 (k % 16)=((2 ^ (k % 16):Nat):Int) from by unfold p2;rfl,Int.natCast_pow];rfl
 have h2:=yW (n:=p2 (k % 16)) hdg.1 (gJ _)
 rw [e1,e2,aLY (Int.le_of_lt (gJ _)),aAS _ (by omega),aPY hd hk]
end
end Go.Proofs.YtfdcckcadfhpeaaGreatDoor
namespace Go.Proofs.YtfdcckcadfhpeaaGreatDoor.T
open Go Go.Sl
theorem fld190_1:∀ (w:World) (v0 v1:Value),(Instr.field 190 (.agg #[v0,v1]) 1).run Tryz.prog w=.ok (#[v0,v1][1]?.getD undef) w:=fun _ _ _=>by kernel_rfl
end Go.Proofs.YtfdcckcadfhpeaaGreatDoor.T
namespace Go.Proofs.YtfdcckcadfhpeaaGreatDoor
open Go Go.Sl
theorem xR {l:List U32} {i:Nat} (h:i<l.length):aD (l.drop i)=dg l i+65536*aD (l.drop (i+1)):=by
 rw [List.drop_eq_getElem_cons h,dI]
 unfold dg
 rw [Int.toNat_natCast,List.getElem?_eq_getElem h];rfl
theorem aSA {l:List U32} {i:Nat} (h:i<l.length) (d:Int):dg (l.set i ⟨d⟩) i=d:=by
 unfold dg
 rw [Int.toNat_natCast,List.getElem?_eq_getElem (by rw [List.length_set];exact h),List.getElem_set_self];rfl
theorem aDZ {la q:List U32} {i:Nat} {r B:Int} (hi:i<la.length) (hq:i<q.length) (hv:aD (la.drop (i+1))=aD (q.drop (i+1))*B+r) :
 aD (la.drop i)=aD ((q.set i ⟨(r*65536+dg la i) / B⟩).drop i)*B+(r*65536+dg la i) % B:=by
 rw [xR hi,xR (l:=q.set i _) (by rw [List.length_set];exact hq),aSA hq,List.drop_set_of_lt (by omega),hv]
 have h:=Int.emod_add_mul_ediv (r*65536+dg la i) B
 rw [Int.add_mul,Int.mul_comm ((r*65536+dg la i) / B) B,Int.mul_assoc 65536,Int.mul_add]
 omega
theorem aLZ {r a B:Int} (hr:0≤r∧r<B) (ha:0≤a∧a<65536):0≤(r*65536+a) / B∧(r*65536+a) / B<65536:=by
 refine ⟨Int.ediv_nonneg (by omega) (by omega),Int.ediv_lt_of_lt_mul (by omega) ?_⟩
 have h1:=Int.mul_le_mul_of_nonneg_right (show r+1≤B by omega) (show (0:Int)≤65536 by decide)
 rw [Int.mul_comm 65536 B]
 omega
theorem zC {lb:List U32} (h:lb.length=1):aD lb=dg lb 0:=by
 match lb,h with
 | [d],_=>rw [pM];rfl
def aMA (G:Imm) (la lb:List U32) (v:Value):Prop:=∃ (qa ra:Option Addr) (qc rc:Nat) (lq lr:List U32),v=.tuple #[.slice qa lq.length qc,.slice ra lr.length rc]∧Arr G qa lq∧Arr G ra lr∧Digs lq∧Top lq∧Digs lr∧Top lr∧
 aD la=aD lq*aD lb+aD lr∧aD lr<aD lb∧lq.length≤qc∧lr.length≤rc∧lq.length≤la.length
section
attribute [local irreducible] aD pw bL p2
theorem c279S (G:Imm) (a b:Option Addr) (ca cb:Nat) (la lb:List U32) (ha:Arr G a la) (hb:Arr G b lb) (da:Digs la) (db:Digs lb) (tb:Top lb) (h1:la.length≤536870912) (hl1:lb.length=1) :
 Does Tryz.prog 279 [.slice a la.length ca,.slice b lb.length cb] G [] (fun v G' Ho=>aMA G' la lb v∧Ho=[]):=by
 have hB:0<dg lb 0:=by
  rw [←zC hl1];exact sZ db tb (fun e=>by rw [e] at hl1;simp at hl1)
 have hB2:=kA db (show 0<lb.length by omega)
 have hb0:(lb[((0:Nat):Int).toNat]?.getD default).v=dg lb 0:=rfl
 refine D0 Tryz.func279 Tryz.ntmps279 fun w=>?_
 refine Wc.gl 19 [1] ?_
 refine Wl.make (α:=U32) 0 rfl T.sl123 T.el215 rfl rfl (by omega) (by omega) fun b1=>?_
 refine Wl.gc 18 [] ?_
 obtain ⟨N,hN⟩:∃ N,N=la.length:=⟨_,rfl⟩
 have hM:(la.length:Int).toNat=N:=by omega
 rw [hM]
 have hown:∀ r:List U32,r.length=N→OwnA (some ⟨b1,0,none⟩) N r []:=fun r hr=>.inr ⟨b1,rfl,by rw [hr];rfl,by omega,by simp only [maxLen];omega⟩
 refine Wc.re 6 rfl (show _=Value.slice (some ⟨b1,0,none⟩) (List.replicate N (default:U32)).length N by rw [List.length_replicate]) ?_
 refine Wc.lp (ι:=Nat×Int×List U32) (fun (k,r,q)=>([(8,.int .i64 ((k:Int) - 1)),(7,.int .u64 r),(6,.slice (some ⟨b1,0,none⟩) q.length N),(5,.slice none 0 0),(4,.slice none 0 0),(0,.slice a (List.length la) ca),(1,.slice b (List.length lb) cb)],[(0,some b1,Row 215 q [])])) (fun (k,r,q)=>k≤la.length∧q.length=N∧Digs q∧0≤r∧r<dg lb 0∧aD (la.drop k)=aD (q.drop k)*dg lb 0+r) (fun (k,r,q)=>k) ((la.length,0,List.replicate N (default:U32))) (⟨Nat.le_refl _,List.length_replicate,lM N,by decide,hB,by rw [List.drop_eq_nil_of_le (Nat.le_refl _),List.drop_eq_nil_of_le (by rw [List.length_replicate];omega),cR,Int.zero_mul];rfl⟩) fun ⟨k,r,q⟩=>fun hk=>?_
 obtain ⟨hk1,hqN,hdq,hr0,hr1,hv⟩:=hk
 have hoq:=hown q hqN
 rcases Nat.eq_zero_or_pos k with rfl | hpos
 · rw [List.drop_zero,List.drop_zero] at hv
   have hcap:=hoq.le
   refine Wc.gl 16 [0] ?_
   refine Wl.freezeRow 0 rfl hoq fun G8 hle8 hA=>?_
   refine Wl.k 1 rfl (gI _ _ _ _ _ ‹_› (by first | omega | (simp only [List.length_cons,List.length_nil];omega)) (by first | assumption | exact Nat.le_refl _)) fun v1 G1 Ho1 hle1 hp=>?_
   obtain ⟨tn1,rfl,htr1,rfl,rfl⟩:=hp
   refine Wl.p (nJ T.fld190_1 rfl rfl) ?_
   refine aA 1 [] ?_
   refine Wl.p (bX rfl T.u215 rfl (by omega)) ?_
   refine Wl.lit (α:=U32) 1 [⟨r⟩] rfl T.sl123 T.el215 rfl rfl rfl rfl rfl fun b2=>?_
   have hdr:Digs [(⟨r⟩:U32)]:=Digs.one (by omega)
   refine Wl.freezeRow 1 rfl (dV (xs:=[(⟨r⟩:U32)]) (by simp [maxLen])) fun G9 hle9 hA2=>?_
   replace hA:=hA.up hle9
   refine Wl.k 2 rfl (gI _ _ _ _ _ ‹_› (by first | omega | (simp only [List.length_cons,List.length_nil];omega)) (by first | assumption | exact Nat.le_refl _)) fun v2 G2 Ho2 hle2 hp=>?_
   obtain ⟨tn2,rfl,htr2,rfl,rfl⟩:=hp
   refine Wl.p (nJ T.fld190_1 rfl rfl) ?_
   refine Wl.ga 6 [] ?_
   refine Ar.e2 ?_
   refine ⟨⟨subA (some ⟨b1,0,none⟩) N 0 1,subA (some ⟨b2,0,none⟩) 1 0 1,N,1,q.take tn1,[(⟨r⟩:U32)].take tn2,?_,tD hA _,tD hA2 _,hdq.take _,htr1.top,hdr.take _,htr2.top,?_,?_,?_,?_,?_⟩,rfl⟩
   · rw [htr1.len,htr2.len];rfl
   · rw [htr1.val,htr2.val,pM,zC hl1];exact hv
   · rw [htr2.val,pM,zC hl1];exact hr1
   · rw [htr1.len];exact Nat.le_trans htr1.1 hcap
   · rw [htr2.len];exact htr2.1
   rw [htr1.len,←hN,←hqN];exact htr1.1
 obtain ⟨i,rfl⟩:∃ i,k=i+1:=⟨k - 1,by omega⟩
 have hai:=kA da (show i<la.length by omega)
 have ei:(((i+1:Nat):Int) - 1).toNat=i:=by omega
 have eA:(la[(((i+1:Nat):Int) - 1).toNat]?.getD default).v=dg la i:=by unfold dg;rw [ei,Int.toNat_natCast]
 have hsl:=aLZ ⟨hr0,hr1⟩ hai
 have hb1:0<(lb[(0:Int).toNat]?.getD default).v:=hB
 have hb2:(lb[(0:Int).toNat]?.getD default).v<65536:=hB2.2
 have hsl':0≤(r*65536+(la[(((i+1:Nat):Int) - 1).toNat]?.getD default).v) / (lb[(0:Int).toNat]?.getD default).v∧(r*65536+(la[(((i+1:Nat):Int) - 1).toNat]?.getD default).v) / (lb[(0:Int).toNat]?.getD default).v≤65535:=by
  rw [eA]
  exact ⟨hsl.1,by have:=hsl.2;show _ / dg lb 0≤_;omega⟩
 have hrm:0≤(r*65536+dg la i) % dg lb 0∧(r*65536+dg la i) % dg lb 0<dg lb 0:=⟨Int.emod_nonneg _ (by omega),Int.emod_lt_of_pos _ hB⟩
 refine Wc.gl 15 [1] ?_
 refine Wl.p (fW rfl rfl (by first | assumption | omega)) ?_
 refine aA 2 [] ?_
 refine Wl.at (α:=U32) T.sl123 ?_
 refine bM 0 T.one215 ?_
 refine Wl.p (aI rfl T.u214 rfl (by omega)) ?_
 refine Wl.p (bV rfl rfl (by omega)) ?_
 refine Wl.gl 9 [] ?_
 refine Wl.at (α:=U32) T.sl123 ?_
 refine Wl.q rfl (aL T.one215 rfl (Arr.cell ‹_› (by omega) 0 rfl rfl)) ?_
 refine Wl.p (aI rfl T.u214 rfl (by omega)) ?_
 refine Wl.p (gW rfl rfl (by omega)) ?_
 refine Wl.p (bX rfl T.u215 rfl (by omega)) ?_
 refine bR (α:=U32) T.sl123 ?_
 refine bG (z:=_) 0 T.size215 rfl rfl rfl ‹_› (by omega) rfl fun ho1=>?_
 refine Wl.gl 5 [] ?_
 refine Wl.at (α:=U32) T.sl123 ?_
 refine Wl.q rfl (aL T.one215 rfl (Arr.cell ‹_› (by omega) 0 rfl rfl)) ?_
 refine Wl.p (aI rfl T.u214 rfl (by omega)) ?_
 refine Wl.p (cO rfl rfl (by omega)) ?_
 refine Wl.ga 9 [] ?_
 rw [eA]
 refine Ar.re 8 rfl (show _=Value.int .i64 ((i:Int) - 1) by congr 1;omega) ?_
 refine Ar.reH 0 (Row 215 (q.set i ⟨(r*65536+dg la i) / dg lb 0⟩) []) rfl (by rw [ei];rfl) ?_
 refine Ar.re 6 rfl (show _=Value.slice (some ⟨b1,0,none⟩) (q.set i ⟨(r*65536+dg la i) / dg lb 0⟩).length N by rw [List.length_set]) ?_
 refine aH ((i,(r*65536+dg la i) % dg lb 0,q.set i ⟨(r*65536+dg la i) / dg lb 0⟩)) ?_ ?_
 · exact ⟨by omega,by rw [List.length_set];exact hqN,kP hdq _ hsl,hrm.1,hrm.2,aDZ (by omega) (by omega) hv⟩
 show i<i+1
 omega
end
theorem aMB {α:Type} [Cells α] (E:TypeId) (xs:List α) (j:List Value) (n:Nat):Row E xs j=Row E (xs.take n) (bH (xs.drop n)++j):=by
 unfold Row
 rw [←List.append_assoc,←dZ,List.take_append_drop]
theorem aMC {α:Type} [Cells α] {a:Option Addr} {c:Nat} {xs:List α} {j:List Value} (h:OwnA a c xs j) (n:Nat):OwnA a c (xs.take n) (bH (xs.drop n)++j):=by
 rcases h with ⟨h1,rfl,rfl,h4⟩ | ⟨b,h1,h2,h3,h4⟩
 · exact .inl ⟨h1,by simp,by simp [bH],h4⟩
 refine .inr ⟨b,h1,?_,?_,h4⟩
 · rw [List.length_append,aV,←Nat.add_assoc,←Nat.add_mul,←List.length_append,List.take_append_drop];exact h2
 rw [List.length_take];omega
theorem aII {l:List U32} (hd:Digs l) (h0:l≠[]) (h:pw (l.length - 1)≤aD l):Top l:=by
 refine .inr fun hz=>?_
 have hl:0<l.length:=List.length_pos_iff.2 h0
 have e:=dX l (l.length - 1)
 have hz':dg l (l.length - 1)=0:=by unfold dg;rw [Int.toNat_natCast];exact hz
 rw [Nat.sub_add_cancel hl,aQ (Nat.le_refl _),hz',Int.mul_zero,Int.add_zero] at e
 have h1:=fO (hd.take (l.length - 1))
 rw [List.length_take,Nat.min_eq_left (by omega)] at h1
 omega
theorem iD {l m:List U32} (hl:Digs l) (hm:Digs m) (tm:Top m) (h:aD m≤aD l):m.length≤l.length:=by
 rcases Nat.lt_or_ge l.length m.length with h1 | h1
 · have:=jJ hl hm tm h1;omega
 exact h1
theorem aMD {l:List U32} {i:Nat} (h:i<l.length) (d:U32):(l.set i d).take (i+1)=l.take i++[d]:=by
 rw [List.take_add_one,List.take_set_of_le (Nat.le_refl _),List.getElem?_set_self h];rfl
theorem aPZ {r s:List U32} {i:Nat} (h:s.drop i=r.drop i):dg s i=dg r i:=by
 have e:s[i]?=r[i]?:=by
  have:=congrArg (·[0]?) h
  simpa [List.getElem?_drop] using this
 unfold dg;rw [Int.toNat_natCast,e]
theorem wX {r s:List U32} {i:Nat} (h:s.drop i=r.drop i) (d:U32):(s.set i d).drop (i+1)=r.drop (i+1):=by
 rw [List.drop_set_of_lt (by omega),←List.drop_drop,←List.drop_drop,h]
theorem aEA {r s:List U32} {i:Nat} {c c0:Int} (hi:i<s.length) (hd:s.drop i=r.drop i) (hv:aD (s.take i)+pw i*c=2*aD (r.take i)+c0) :
 aD ((s.set i ⟨(c+2*dg s i) % 65536⟩).take (i+1))+pw (i+1)*((c+2*dg s i) / 65536)=2*aD (r.take (i+1))+c0:=by
 rw [aMD hi,iY,List.length_take,Nat.min_eq_left (Nat.le_of_lt hi),dX,gF,←aPZ hd]
 have h:=aFQ (pw i) (c+2*dg s i)
 rw [Int.mul_add,Int.mul_left_comm] at h
 show aD (s.take i)+pw i*((c+2*dg s i) % 65536)+65536*pw i*((c+2*dg s i) / 65536)=_
 omega
theorem aME (x:Int) (e:Nat):x / p2 e=2*(x / p2 (e+1))+x / p2 e % 2:=by
 rw [lS,Int.mul_comm 2 (p2 e),←Int.ediv_ediv_of_nonneg (Int.le_of_lt (gJ e))]
 omega
theorem aMF {q:List U32} (hd:Digs q) {e:Nat} {Q:Int} (he:e / 16<q.length) (h:aD q=p2 (e+1)*Q):dg q (e / 16) % p2 (e % 16+1)=0:=by
 have e0:=nM q (m:=e / 16+1) (by omega)
 rw [dX,gF] at e0
 have h1:=fO (hd.take (e / 16))
 have h0:=cH (hd.take (e / 16))
 rw [List.length_take,Nat.min_eq_left (by omega)] at h1
 have ek:p2 (e+1)=pw (e / 16)*p2 (e % 16+1):=by rw [aBO,←mU,←Nat.add_assoc,Nat.div_add_mod]
 obtain ⟨r,hr⟩:∃ r,16=e % 16+1+r:=⟨15 - e % 16,by omega⟩
 have e4:p2 16=p2 (e % 16+1)*p2 r:=(congrArg p2 hr).trans (by rw [mU])
 rw [aBP] at e4
 have e2:aD (q.take (e / 16))+pw (e / 16)*(dg q (e / 16)+p2 (e % 16+1)*(p2 r*aD (q.drop (e / 16+1))))=pw (e / 16)*(p2 (e % 16+1)*Q):=by
  rw [←Int.mul_assoc (pw (e / 16)) (p2 (e % 16+1)) Q,←ek,←h,e0,Int.mul_add,←Int.mul_assoc (p2 (e % 16+1)) (p2 r),←e4,←Int.mul_assoc (pw (e / 16)) 65536,Int.mul_comm (pw (e / 16)) 65536]
  omega
 have e3:dg q (e / 16)+p2 (e % 16+1)*(p2 r*aD (q.drop (e / 16+1)))=p2 (e % 16+1)*Q:=by
  have h2:=congrArg (fun z=>z / pw (e / 16)) e2
  rw [Int.add_mul_ediv_left _ _ (Int.ne_of_gt (fQ _)),Int.ediv_eq_zero_of_lt h0 h1,Int.zero_add,Int.mul_ediv_cancel_left _ (Int.ne_of_gt (fQ _))] at h2
  exact h2
 have e5:dg q (e / 16)=p2 (e % 16+1)*(Q - p2 r*aD (q.drop (e / 16+1))):=by rw [Int.mul_sub];omega
 rw [e5];exact Int.mul_emod_right _ _
theorem aMG {q:List U32} {e:Nat} {Q:Int} (he:e / 16<q.length) (h:aD q=p2 (e+1)*Q):aD (q.set (e / 16) ⟨dg q (e / 16)+p2 (e % 16)⟩)=p2 e*(2*Q+1):=by
 have ek:p2 e=pw (e / 16)*p2 (e % 16):=by rw [aBO,←mU,Nat.div_add_mod]
 rw [pT q (e / 16) _ he,h,lS,Int.mul_add,Int.mul_one]
 show 2*p2 e*Q+pw (e / 16)*(dg q (e / 16)+p2 (e % 16) - dg q (e / 16))=_
 rw [show dg q (e / 16)+p2 (e % 16) - dg q (e / 16)=p2 (e % 16) by omega,←ek,Int.mul_left_comm (p2 e) 2 Q,Int.mul_assoc 2 (p2 e) Q]
theorem aMH {q:List U32} (hd:Digs q) {e:Nat} (he:e / 16<q.length) (hz:dg q (e / 16) % p2 (e % 16+1)=0):0≤dg q (e / 16)+p2 (e % 16)∧dg q (e / 16)+p2 (e % 16)<65536:=by
 have h1:=kA hd he
 have h2:=gJ (e % 16)
 obtain ⟨r,hr⟩:∃ r,16=e % 16+1+r:=⟨15 - e % 16,by omega⟩
 have e4:p2 16=p2 (e % 16+1)*p2 r:=(congrArg p2 hr).trans (by rw [mU])
 rw [aBP] at e4
 obtain ⟨y,hy⟩:∃ y,dg q (e / 16)=p2 (e % 16+1)*y:=⟨_,(Int.mul_ediv_cancel' (Int.dvd_of_emod_eq_zero hz)).symm⟩
 have hlt:y<p2 r:=by
  rw [hy,e4] at h1
  exact Int.lt_of_mul_lt_mul_left h1.2 (Int.le_of_lt (gJ _))
 have h3:=Int.mul_le_mul_of_nonneg_left (show y+1≤p2 r by omega) (Int.le_of_lt (gJ (e % 16+1)))
 rw [Int.mul_add,Int.mul_one,←e4,←hy,lS] at h3
 omega
theorem aFY (n:Nat):p2 n=((2 ^ n:Nat):Int):=rfl
theorem aFZ {e:Nat}:IntKind.u32.wrap (1*2 ^ min ((e:Int) % 16).toNat IntKind.u32.bits)=p2 (e % 16):=by
 have e1:min ((e:Int) % 16).toNat IntKind.u32.bits=e % 16:=by
  rw [show IntKind.u32.bits=32 from rfl];omega
 have e2:(2:Int) ^ (e % 16)=p2 (e % 16):=by rw [aFY,Int.natCast_pow];rfl
 have h1:p2 (e % 16)≤p2 16:=aFX (by omega)
 rw [aBP] at h1
 have h2:=gJ (e % 16)
 rw [e1,e2,Int.one_mul,IntWalk.u32_in _ (by omega)]
theorem aSB {q:List U32} {e:Nat} (h:0≤dg q (e / 16)∧dg q (e / 16)<65536) (hz:dg q (e / 16) % p2 (e % 16+1)=0) :
 bits BinOp.or IntKind.u32 (q[((e:Int) / 16).toNat]?.getD default).v (IntKind.u32.wrap (1*2 ^ min ((e:Int) % 16).toNat IntKind.u32.bits))=dg q (e / 16)+p2 (e % 16):=by
 have e1:(q[((e:Int) / 16).toNat]?.getD default).v=dg q (e / 16):=by
  unfold dg;rw [show ((e:Int) / 16).toNat=((e / 16:Nat):Int).toNat by omega]
 rw [aFZ,e1,aFY (e % 16)]
 exact aDR _ _ h (by omega) hz
section
attribute [local irreducible] aD pw bL p2
theorem c279L (G:Imm) (a b:Option Addr) (ca cb:Nat) (la lb:List U32) (ha:Arr G a la) (hb:Arr G b lb) (da:Digs la) (db:Digs lb) (tb:Top lb) (h1:la.length≤536870912) (h2:lb.length≤536870912) (hl1:lb.length≠1) (hB:0<aD lb) :
 Does Tryz.prog 279 [.slice a la.length ca,.slice b lb.length cb] G [] (fun v G' Ho=>aMA G' la lb v∧Ho=[]):=by
 refine D0 Tryz.func279 Tryz.ntmps279 fun w=>?_
 refine bF 50 (Row 215 ([]:List U32) []) ?_
 refine Wc.gl 21 [0] ?_
 refine Wl.make (α:=U32) 51 rfl T.sl123 T.el215 rfl rfl (by omega) (by omega) fun b1=>?_
 refine Wl.gl 12 [] ?_
 refine Wl.k 52 rfl (c283 _ _ _ _ ‹_› ‹_› ‹_›) fun v1 G1 Ho1 hle1 hp=>?_
 obtain ⟨nb1,rfl,hnv1,hnl1,rfl,rfl⟩:=hp
 refine Wl.gc 5 [] ?_
 obtain ⟨N,hN⟩:∃ N,N=la.length:=⟨_,rfl⟩
 have hM:(la.length:Int).toNat=N:=by omega
 rw [hM]
 have hown:∀ r:List U32,r.length=N→OwnA (some ⟨b1,0,none⟩) N r []:=fun r hr=>.inr ⟨b1,rfl,by rw [hr];rfl,by omega,by simp only [maxLen];omega⟩
 refine Wc.re 9 rfl (show _=Value.slice (some ⟨b1,0,none⟩) (List.replicate N (default:U32)).length N by rw [List.length_replicate]) ?_
 have hstart:aD la / p2 nb1=0:=Int.ediv_eq_zero_of_lt (cH da) hnv1
 refine Wc.loop (ι:=Nat×Int×List U32×List U32×(Option Addr×Nat×List Value)) (fun (k,Q,q,r,(o,d,j))=>([(11,.int .i64 ((k:Int) - 1)),(9,.slice (some ⟨b1,0,none⟩) q.length N),(10,.slice o r.length d),(5,.slice none 0 0),(4,.slice none 0 0),(0,.slice a (List.length la) ca),(1,.slice b (List.length lb) cb)],[(51,some b1,Row 215 q []),(50,o.map (·.block),Row 215 r j)])) (fun (k,Q,q,r,(o,d,j))=>k≤nb1∧q.length=N∧Digs q∧Digs r∧Top r∧aD q=p2 k*Q∧aD la / p2 k=Q*aD lb+aD r∧aD r<aD lb∧r.length≤lb.length∧OwnA o d r j) (fun (k,Q,q,r,(o,d,j))=>k) ((nb1,0,List.replicate N (default:U32),[],(none,0,[]))) (⟨Nat.le_refl _,List.length_replicate,lM N,Digs.nil,Top.nil,by rw [Int.mul_zero];exact jI N,by rw [hstart,Int.zero_mul,cR];rfl,by rw [cR];exact hB,Nat.zero_le _,OwnA.nil⟩) ⟨rfl,rfl,rfl,rfl,rfl,rfl,rfl,trivial⟩ ⟨rfl,rfl,trivial⟩ fun ⟨k,Q,q,r,(o,d,j)⟩=>fun hk=>?_
 obtain ⟨hk1,hqN,hdq,hdr,htr,hvq,hva,hrB,hrl,hob⟩:=hk
 have hoq:=hown q hqN
 rcases Nat.eq_zero_or_pos k with rfl | hpos
 · rw [pU,Int.ediv_one] at hva
   rw [pU,Int.one_mul] at hvq
   have hcap:=hoq.le
   have hcap2:=hob.le
   refine Wc.gl 16 [0] ?_
   refine Wl.freezeRow 51 rfl hoq (fun G8 hle8 hA=>Wl.freezeRow 50 rfl hob (fun G9 hle9 hA2=>?_))
   replace hA:=hA.up hle9
   refine Wl.k 52 rfl (gI _ _ _ _ _ ‹_› (by first | omega | (simp only [List.length_cons,List.length_nil];omega)) (by first | assumption | exact Nat.le_refl _)) fun v2 G2 Ho2 hle2 hp=>?_
   obtain ⟨tn2,rfl,htr2,rfl,rfl⟩:=hp
   refine Wl.p (nJ T.fld190_1 rfl rfl) ?_
   refine Wl.ga 6 [] ?_
   refine Ar.e2 ?_
   refine ⟨⟨subA (some ⟨b1,0,none⟩) N 0 1,o,N,d,q.take tn2,r,?_,tD hA _,hA2,hdq.take _,htr2.top,hdr,htr,?_,hrB,?_,hcap2,?_⟩,rfl⟩
   · rw [htr2.len];rfl
   · rw [htr2.val,hvq];exact hva
   · rw [htr2.len];exact Nat.le_trans htr2.1 hcap
   rw [htr2.len,←hN,←hqN];exact htr2.1
 obtain ⟨e,rfl⟩:∃ e,k=e+1:=⟨k - 1,by omega⟩
 have he16:e<16*la.length:=by omega
 refine Wc.re 11 rfl (show _=Value.int .i64 (e:Int) by congr 1;omega) ?_
 have hbit:0≤aD la / p2 e % 2∧aD la / p2 e % 2≤1:=by omega
 have hhb:=aME (aD la) e
 generalize hc:aD la / p2 e % 2=c0 at *
 refine Wc.gl 16 [1] ?_
 refine Wl.k0 rfl (c284 _ _ _ _ _ ‹_› ‹_› ‹_› ‹_›) ?_
 refine Wl.gc 10 [] ?_
 refine Wc.re 12 rfl (show _=Value.int .u32 c0 by rw [hc]) ?_
 refine Wc.lp (ι:=Nat×Int×List U32) (fun (i,c,s)=>([(13,.int .i64 (i:Int)),(12,.int .u32 c),(10,.slice o s.length d),(0,.slice a la.length ca),(1,.slice b lb.length cb),(11,.int .i64 (↑e:Int)),(9,.slice (some (Addr.mk b1 0 none)) (List.length q) N),(5,.slice none 0 0),(4,.slice none 0 0)],[(50,o.map (·.block),Row 215 s j),(51,some b1,Row (α:=Go.Sl.U32) 215 (q) ([]))])) (fun (i,c,s)=>i≤r.length∧s.length=r.length∧Digs s∧0≤c∧c≤1∧aD (s.take i)+pw i*c=2*aD (r.take i)+c0∧s.drop i=r.drop i∧OwnA o d s j) (fun (i,c,s)=>r.length - i) ((0,c0,r)) (⟨Nat.zero_le _,rfl,hdr,hbit.1,hbit.2,by rw [List.take_zero,cR,pL,Int.one_mul];omega,rfl,hob⟩) fun ⟨i,c,s⟩=>fun hk=>?_
 obtain ⟨hi1,hsl,hds,hcc0,hcc1,hvs,hdrop,hos⟩:=hk
 rcases Nat.lt_or_ge i r.length with hil | hil
 · have hsi:0≤(s[((i:Nat):Int).toNat]?.getD default).v∧(s[((i:Nat):Int).toNat]?.getD default).v<65536:=kA hds (by omega)
   refine Wc.gl 19 [1] ?_
   refine bR (α:=U32) T.sl123 ?_
   refine Wl.lo 50 0 T.one215 ?_
   refine Wl.p (aHQ rfl rfl (by first | assumption | omega)) ?_
   refine Wl.p (fF rfl rfl (by omega)) ?_
   refine Wl.gl 8 [] ?_
   refine Wl.p (cO rfl rfl (by omega)) ?_
   refine bR (α:=U32) T.sl123 ?_
   refine bG (z:=_) 50 T.size215 rfl rfl rfl ‹_› (by omega) rfl fun ho1=>?_
   refine Wl.gl 4 [] ?_
   refine Wl.p (iX rfl rfl (by omega)) ?_
   refine Wl.ga 9 [] ?_
   refine Ar.reH 50 (Row 215 (s.set i ⟨(c+2*(s[((i:Nat):Int).toNat]?.getD default).v) % 65536⟩) j) rfl (by rw [Int.toNat_natCast]) ?_
   refine Ar.re 10 rfl (show _=Value.slice o (s.set i ⟨(c+2*(s[((i:Nat):Int).toNat]?.getD default).v) % 65536⟩).length d by rw [List.length_set]) ?_
   refine aH ((i+1,(c+2*(s[((i:Nat):Int).toNat]?.getD default).v) / 65536,s.set i ⟨(c+2*(s[((i:Nat):Int).toNat]?.getD default).v) % 65536⟩)) ?_ ?_
   · refine ⟨by omega,by rw [List.length_set];exact hsl,kP hds _ (by omega),by omega,by omega,aEA (by omega) hdrop hvs,wX hdrop _,?_⟩
     rw [Int.toNat_natCast] at ho1;exact ho1
   show r.length - (i+1)<r.length - i
   omega
 have hii:i=r.length:=by omega
 subst hii
 rw [aQ (by omega),aQ (Nat.le_refl _)] at hvs
 refine Wc.gc 15 [0] ?_
 refine eY (ι:=List U32×(Option Addr×Nat×List Value)) (fun (s1,(o1,d1,j1))=>([(10,.slice o1 s1.length d1),(0,.slice a la.length ca),(1,.slice b lb.length cb),(11,.int .i64 (↑e:Int)),(9,.slice (some (Addr.mk b1 0 none)) (List.length q) N),(5,.slice none 0 0),(4,.slice none 0 0)],[(50,o1.map (·.block),Row 215 s1 j1),(51,some b1,Row (α:=Go.Sl.U32) 215 (q) ([]))])) (fun (s1,(o1,d1,j1))=>Digs s1∧Top s1∧aD s1=2*aD r+c0∧s1.length≤r.length+1∧OwnA o1 d1 s1 j1) ?_ fun ⟨s1,(o1,d1,j1)⟩=>fun (hk:Digs s1∧Top s1∧aD s1=2*aD r+c0∧s1.length≤r.length+1∧OwnA o1 d1 s1 j1)=>?_
 · by_cases hcy:0<c
   · have hcE:c=1:=by omega
     subst hcE
     rw [Int.mul_one,←hsl] at hvs
     refine Wc.gl 10 [1] ?_
     refine Wl.lit (α:=U32) 52 [⟨1⟩] rfl T.sl123 T.el215 rfl rfl rfl rfl rfl fun b2=>?_
     refine Wl.ap (α:=U32) 50 T.sl123 T.el215 (Src.row 52 rfl) fun a1 c1 junk1 ho1=>?_
     refine Wl.ga 2 [] ?_
     refine Ar.mt ((s++[⟨1⟩],(a1,c1,junk1))) ?_
     refine ⟨hds.append (Digs.one (by decide)),?_,by rw [iY,Int.mul_one];exact hvs,by rw [List.length_append,hsl];exact Nat.le_refl _,ho1⟩
     refine .inr ?_
     rw [List.length_append,List.length_singleton,Nat.add_sub_cancel,List.getElem?_append_right (Nat.le_refl _),Nat.sub_self]
     decide
   have hcE:c=0:=by omega
   subst hcE
   rw [Int.mul_zero,Int.add_zero] at hvs
   refine Wc.ga 8 [0] ?_
   refine Ar.mt ((s,(o,d,j))) ?_
   refine ⟨hds,?_,hvs,by omega,hos⟩
   by_cases hr0:r=[]
   · left
     rw [hr0] at hsl
     exact List.eq_nil_of_length_eq_zero hsl
   refine aII hds (fun e0=>hr0 (List.eq_nil_of_length_eq_zero (by rw [←hsl,e0];rfl))) ?_
   have:=yX hdr htr hr0
   have h0:=cH hdr
   rw [hsl,hvs];omega
 clear hvs hos hds hsl hdrop hcc0 hcc1
 obtain ⟨hd1,ht1,hv1,hsl1,ho1⟩:=hk
 have heq:e / 16<q.length:=by omega
 have hdz:=aMF hdq heq hvq
 have hroom:=aMH hdq heq hdz
 have hdgq:=kA hdq heq
 refine Wc.gl 4 [] ?_
 refine pH 60 rfl T.fn216 rfl (fun Gx hGx hgx=>aLT Gx _ _ _ _ s1 lb (Arr.own hgx 50 rfl ho1) (hb.up hGx) hd1 db ht1 tb (by omega) (by omega)) fun v5 Gx5 G5 Ho5 hlx5 hp=>?_
 obtain ⟨rfl,rfl,rfl⟩:=hp
 by_cases hge:aD lb≤aD s1
 · have hcmp:0≤bL (aD s1) (aD lb):=by
    rcases Int.lt_or_eq_of_le hge with h | h
    · rw [iU h];decide
    rw [nK h.symm];decide
   have hll:=iD hd1 db tb hge
   refine Wl.gl 8 [1] ?_
   refine pH 50 rfl T.fn278 rfl (fun Gx hGx hgx=>c278 Gx _ _ _ _ s1 lb (Arr.own hgx 50 rfl ho1) (hb.up hGx) hd1 db (by omega) hll hge) fun v7 Gx7 G7 Ho7 hlx7 hp=>?_
   obtain ⟨mo,mc,mr,mj,rfl,hmo,rfl,rfl,hmd,hmv,hml⟩:=hp
   have hmc:=hmo.le
   skip
   refine pH 70 rfl T.fn168 rfl (fun Gx hGx hgx=>gI Gx _ _ _ mr (Arr.own hgx 50 rfl hmo) (by omega) hmc) fun v8 Gx8 G8 Ho8 hlx8 hp=>?_
   obtain ⟨tn,rfl,htm,rfl,rfl⟩:=hp
   refine Wl.p (nJ T.fld190_1 rfl rfl) ?_
   refine Wl.gc 3 [] ?_
   refine aN [51,50] [(50,13),(51,13)] T.mixed [[0],[1]] ?_
   refine Gm.u 2 [] rfl (fN rfl rfl (by omega)) ?_
   refine Gm.r [[3],[4]] ?_
   refine Gm.u 5 [] rfl (fN rfl rfl (by omega)) ?_
   refine eM (α:=U32) 6 T.sl123 ?_
   refine Gm.lo 7 51 0 T.one215 ?_
   refine Gm.r [[8]] ?_
   refine Gm.u 9 [] rfl (cO rfl rfl (by omega)) ?_
   refine Gm.u 10 [] rfl (Qy.shl rfl rfl (by omega)) ?_
   refine Gm.u 11 [] rfl (lG rfl rfl) ?_
   refine eM (α:=U32) 12 T.sl123 ?_
   refine Gm.o1 13 ?_
   refine bG (z:=_) 51 T.size215 rfl rfl rfl ‹_› (by omega) rfl fun ho2=>?_
   refine aZ ?_
   refine Ar.ga 7 [] ?_
   refine Ar.reH 51 (Row 215 (q.set (e / 16) ⟨dg q (e / 16)+p2 (e % 16)⟩) []) rfl ?_ ?_
   · show Row 215 (q.set ((e:Int) / 16).toNat ⟨bits BinOp.or IntKind.u32 (q[((e:Int) / 16).toNat]?.getD default).v (IntKind.u32.wrap (1*2 ^ min ((e:Int) % 16).toNat IntKind.u32.bits))⟩) []=_
     rw [aSB hdgq hdz,show ((e:Int) / 16).toNat=e / 16 by omega]
   refine Ar.reH 50 (Row 215 (mr.take tn) (bH (mr.drop tn)++mj)) rfl (aMB 215 mr mj tn) ?_
   refine Ar.re 10 rfl (show _=Value.slice mo (mr.take tn).length mc by rw [wT hmo,htm.len];rfl) ?_
   refine Ar.re 9 rfl (show _=Value.slice (some ⟨b1,0,none⟩) (q.set (e / 16) ⟨dg q (e / 16)+p2 (e % 16)⟩).length N by rw [List.length_set]) ?_
   refine aH ((e,2*Q+1,q.set (e / 16) ⟨dg q (e / 16)+p2 (e % 16)⟩,mr.take tn,(mo,mc,bH (mr.drop tn)++mj))) ?_ ?_
   · have hvm:=htm.val
     have hlt:aD (mr.take tn)<aD lb:=by rw [hvm,hmv];omega
     refine ⟨by omega,by rw [List.length_set];exact hqN,kP hdq _ hroom,hmd.take _,htm.top,aMG heq hvq,?_,hlt,iD db (hmd.take _) htm.top (Int.le_of_lt hlt),aMC hmo tn⟩
     rw [hhb,hva,hvm,hmv,hv1,Int.add_mul,Int.one_mul,Int.mul_add,←Int.mul_assoc];omega
   show e<e+1
   omega
 have hcmp:¬0≤bL (aD s1) (aD lb):=by rw [iC (by omega)];decide
 have hll:s1.length≤lb.length:=iD db hd1 ht1 (by omega)
 refine Wl.ga 12 [0] ?_
 refine aH ((e,2*Q,q,s1,(o1,d1,j1))) ?_ ?_
 · refine ⟨by omega,hqN,hdq,hd1,ht1,?_,?_,by omega,hll,ho1⟩
   · rw [hvq,lS,Int.mul_left_comm (p2 e) 2 Q,Int.mul_assoc]
   rw [hhb,hva,Int.mul_add,←Int.mul_assoc,hv1];omega
 show e<e+1
 omega
end
end Go.Proofs.YtfdcckcadfhpeaaGreatDoor
