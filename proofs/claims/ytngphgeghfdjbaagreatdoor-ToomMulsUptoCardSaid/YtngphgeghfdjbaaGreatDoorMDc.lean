/- wG of the proof (part 3): what the rows' text needs of the texts that lead to it. -/
import Derived.Test.YtngphgeghfdjbaaGreatDoorMDb
set_option linter.unusedVariables false
set_option linter.unusedSimpArgs false
set_option linter.unusedSectionVars false
set_option maxHeartbeats 4000000
set_option maxRecDepth 100000
namespace Go.Sl
open Go
def A6 (l:List A4):Prop:=∀ d∈l,0≤d.v∧d.v<4294967296
def uM:List A4→Int
 | []=>0
 | d :: l=>d.v+4294967296*uM l
def pb (n:Nat):Int:=((4294967296 ^ n:Nat):Int)
theorem Is:pb 0=1:=rfl
theorem yI (n:Nat):pb (n+1)=4294967296*pb n:=by unfold pb;rw [dM,eG,dS];rfl
theorem xV (n:Nat):0<pb n:=by unfold pb;exact oN.2 (iP uR)
theorem Xq (m n:Nat):pb (m+n)=pb m*pb n:=by unfold pb;rw [kX,dS]
theorem Pc {m n:Nat} (h:m≤n):pb m≤pb n:=by unfold pb;exact qB.2 (eR uR h)
theorem vF:uM []=0:=rfl
theorem wE (d:A4) (l:List A4):uM (d :: l)=d.v+4294967296*uM l:=rfl
theorem A6.nil:A6 []:=fun d h=>by simp at h
theorem A6.tail {d:A4} {l:List A4} (h:A6 (d :: l)):A6 l:=fun x hx=>h x (bD _ hx)
theorem A6.head {d:A4} {l:List A4} (h:A6 (d :: l)):0≤d.v∧d.v<4294967296:=h d bM
theorem A6.append {l m:List A4} (h:A6 l) (h':A6 m):A6 (l++m):=fun x hx=>by
 rcases eL.1 hx with h1 | h1
 · exact h x h1
 exact h' x h1
theorem A6.one {d:Int} (h:0≤d∧d<4294967296):A6 [⟨d⟩]:=fun x hx=>by
 have:x=⟨d⟩:=by simpa using hx
 subst this;exact h
theorem A6.take {l:List A4} (h:A6 l) (n:Nat):A6 (l.take n):=fun x hx=>h x (sF hx)
theorem A6.at {l:List A4} (h:A6 l) {m:Int} (hm:0≤m∧m<l.length):0≤(l[m.toNat]?.getD default).v∧(l[m.toNat]?.getD default).v<4294967296:=by
 have hl:m.toNat<l.length:=uJ;rw [aA hl];exact h _ (dY hl)
theorem vD:∀ {l:List A4},A6 l→0≤uM l
 | [],_=>sM 0
 | d :: l,h=>by
   have h1:=vD h.tail;have h2:=h.head;rw [wE];omega
theorem wL:∀ {l:List A4},A6 l→uM l<pb l.length
 | [],_=>uR
 | d :: l,h=>by
   have h1:=wL h.tail;have h2:=h.head;rw [wE,bN,yI];omega
theorem wC:∀ (l m:List A4),uM (l++m)=uM l+pb l.length*uM m
 | [],m=>by rw [gI,vF,cR,Is];omega
 | d :: l,m=>by
   rw [uH,wE,wE,wC l m,bN,yI,bQ,←dA];omega
theorem Ey (d:A4):uM [d]=d.v:=by rw [wE,vF];omega
theorem KU (l:List A4) (d:A4):uM (l++[d])=uM l+pb l.length*d.v:=by rw [wC,Ey]
theorem Fa {l:List A4} {k:Nat} (h:k<l.length):uM (l.take (k+1))=uM (l.take k)+pb k*(l[((k:Nat):Int).toNat]?.getD default).v:=by
 rw [fW,aH,aA h];simp only [Option.toList_some,kF];rw [KU,bI,dE (Nat.le_of_lt h)]
theorem Bp (n:Nat):uM (List.replicate n ⟨0⟩)=0:=by
 induction n with
 | zero=>rfl
 | succ n ih=>rw [pT,wE,ih];rfl
theorem EG (n:Nat):A6 (List.replicate n ⟨0⟩):=fun x hx=>by
 have:=iH hx;subst this;exact ⟨by decide,by decide⟩
abbrev nV:=@EG
theorem KV {l:List A4} {n:Nat} (h:∀ j,n≤j→j<l.length→(l[j]?.getD default).v=0):uM (l.take n)=uM l:=by
 rcases aK n l.length with hn | hn
 · have e:l=l.take n++l.drop n:=(dF n l).symm;have hz:∀ (m:List A4),(∀ j,j<m.length→(m[j]?.getD default).v=0)→uM m=0:=by
    intro m;induction m with
    | nil=>intro _;rfl
    | cons d m ih =>
      intro h0;have h1:=h0 0 vL;simp only [rE,kF] at h1;rw [wE,h1,ih fun j hj=>by have:=h0 (j+1) (by simpa using hj);simpa using this];rfl
   have h2:uM (l.drop n)=0:=hz _ fun j hj=>by
    rw [eW];exact h (n+j) uJ (by rw [cE] at hj;omega)
   have h3:uM l=uM (l.take n++l.drop n):=by rw [dF]
   rw [h3,wC,h2];omega
 rw [vB hn]
theorem Nk {l:List A4} (hd:A6 l) (ht:E8 l) (h0:l≠[]):pb (l.length - 1)≤uM l:=by
 have hl:0<l.length:=nH.2 h0;have h1:(l[l.length - 1]?.getD default).v≠0:=by
  rcases ht with h | h
  · exact absurd h h0
  exact h
 have h2:=Fa (l:=l) (k:=l.length - 1) uJ;rw [tD hl,vB (aG _),aH] at h2;have h3:=vD (hd.take (l.length - 1));have h4:(1:Int)≤(l[l.length - 1]?.getD default).v:=by
  have:=hd.at (m:=((l.length - 1:Nat):Int)) uJ;rw [aH] at this;omega
 have h5:=bG h4 (cN (xV (l.length - 1)));omega
theorem Zw {l:List A4} (hd:A6 l) (ht:E8 l) {m:Nat} (h:uM l<pb m):l.length≤m:=by
 by_cases h0:l=[]
 · subst h0;exact aS _
 have h1:=Nk hd ht h0;rcases aK m l.length with h2 | h2
 · have h3:=Pc (show m≤l.length - 1 by omega);omega
 exact h2
theorem Fb {l:List A4} (hd:A6 l) (ht:E8 l) (h0:l≠[]):0<uM l:=jJ (xV _) (Nk hd ht h0)
theorem Aj {l m:List A4} (hl:A6 l) (hm:A6 m) (tm:E8 m) (h:l.length<m.length):uM l<uM m:=by
 have h1:=wL hl;have h2:=Nk hm tm (fun e=>by rw [e] at h;simp at h);have h3:=Pc (show l.length≤m.length - 1 by omega);omega
structure D9 (neg:Bool) (l:List A4) (z:Int):Prop where
 digs:A6 l
 top:E8 l
 sign:l=[]→neg=false
 val:z=if neg=true then -uM l else uM l
theorem D9.abs {neg:Bool} {l:List A4} {z:Int} (h:D9 neg l z):uM l=z.natAbs:=by
 have h1:=vD h.digs;have h2:=h.val;split at h2 <;> omega
theorem D9.neg_iff {neg:Bool} {l:List A4} {z:Int} (h:D9 neg l z):neg=decide (z<0):=by
 have h2:=h.val;by_cases h0:l=[]
 · have h3:=h.sign h0;subst h0;rw [h3] at h2 ⊢;rw [vF] at h2;have:¬z<0:=by simp at h2;omega
   simp [this]
 have h1:=Fb h.digs h.top h0;cases neg with
 | true =>
   rw [aM rfl] at h2;have:z<0:=uJ;simp [this]
 | false =>
   rw [aE (by decide)] at h2;have:¬z<0:=uJ;simp [this]
theorem D9.zero_iff {neg:Bool} {l:List A4} {z:Int} (h:D9 neg l z):l.length=0↔z=0:=by
 have h2:=h.val;constructor
 · intro h0;have h0:=bS h0;subst h0;rw [vF] at h2;split at h2 <;> omega
 intro hz;by_cases h0:l=[]
 · rw [h0];rfl
 have h1:=Fb h.digs h.top h0;split at h2 <;> omega
theorem D9.len {neg:Bool} {l:List A4} {z:Int} (h:D9 neg l z) {m:Nat} (hz:(z.natAbs:Int)<pb m):l.length≤m:=by
 refine Zw h.digs h.top ?_;rw [h.abs];exact hz
def B9 (G:A3) (x:IV) (z:Int):Prop:=∃ l:List A4,l.length=x.n∧x.n≤x.c∧Arr G x.a l∧D9 x.neg l z
theorem B9.up {G G':A3} {x:IV} {z:Int} (h:B9 G x z) (hl:G.le G'):B9 G' x z:=by
 obtain ⟨l,h1,h0,h2,h3⟩:=h;exact ⟨l,h1,h0,h2.up hl,h3⟩
theorem B9.zero (G:A3):B9 G ⟨false,none,0,0⟩ 0:=⟨[],U,aG _,oT G,⟨A6.nil,E8.nil,fun _=>rfl,U⟩⟩
theorem D8 (a b:Nat) (ha:a<18446744073709551616) (hb:b<18446744073709551616):bits .and .u64 (a:Int) (b:Int)=((a &&& b:Nat):Int):=by
 have hx:a &&& b<2 ^ 64:=Nat.and_lt_two_pow _ uJ;have h1:(BitVec.ofInt 64 (a:Int)).toNat=a:=by
  rw [iS,jK];exact eS uJ
 have h2:(BitVec.ofInt 64 (b:Int)).toNat=b:=by
  rw [iS,jK];exact eS uJ
 show IntKind.u64.wrap ((BitVec.ofInt 64 (a:Int) &&& BitVec.ofInt 64 (b:Int)).toNat:Int)=_;rw [BitVec.toNat_and,h1,h2,pB];omega
theorem E7 (a b:Nat) (ha:a<18446744073709551616) (hb:b<18446744073709551616):bits .or .u64 (a:Int) (b:Int)=((a ||| b:Nat):Int):=by
 have hx:a ||| b<2 ^ 64:=Nat.or_lt_two_pow uJ uJ
 have h1:(BitVec.ofInt 64 (a:Int)).toNat=a:=by
  rw [iS,jK];exact eS uJ
 have h2:(BitVec.ofInt 64 (b:Int)).toNat=b:=by
  rw [iS,jK];exact eS uJ
 show IntKind.u64.wrap ((BitVec.ofInt 64 (a:Int) ||| BitVec.ofInt 64 (b:Int)).toNat:Int)=_;rw [BitVec.toNat_or,h1,h2,pB];omega
theorem Zx (x:Int) (h:0≤x∧x<18446744073709551616):bits .and .u64 x 1=x % 2:=by
 have h1:=D8 x.toNat 1 uJ uJ;rw [Nat.and_one_is_mod,dZ h.1] at h1;have h2:((x.toNat % 2:Nat):Int)=x % 2:=uJ;exact h1.trans h2
theorem Zy (x:Int) (h:0≤x∧x<18446744073709551616):bits .and .u64 x 4294967295=x % 4294967296:=by
 have h1:=D8 x.toNat 4294967295 uJ uJ;rw [show (4294967295:Nat)=2 ^ 32 - 1 by decide,Nat.and_two_pow_sub_one_eq_mod,dZ h.1] at h1;have h2:((x.toNat % 2 ^ 32:Nat):Int)=x % 4294967296:=uJ;exact h1.trans h2
theorem EH (x y:Int) (hx:0≤x∧x<4294967296) (hy:0≤y∧y<4294967296):bits .or .u64 (x*4294967296) y=x*4294967296+y:=by
 have h1:=E7 (2 ^ 32*x.toNat) y.toNat uJ uJ;rw [←pX (b:=y.toNat) (i:=32) uJ x.toNat] at h1;have e1:((2 ^ 32*x.toNat:Nat):Int)=x*4294967296:=uJ;have e2:((2 ^ 32*x.toNat+y.toNat:Nat):Int)=x*4294967296+y:=uJ;rw [e1,e2,dZ hy.1] at h1;exact h1
theorem Zz (x y:Int) (hx:0≤x∧x<4294967296) (hy:0≤y∧y<4294967296):bits .or .u64 y (x*4294967296)=x*4294967296+y:=by
 have h1:=E7 y.toNat (2 ^ 32*x.toNat) uJ uJ;rw [Nat.or_comm,←pX (b:=y.toNat) (i:=32) uJ x.toNat] at h1;have e1:((2 ^ 32*x.toNat:Nat):Int)=x*4294967296:=uJ;have e2:((2 ^ 32*x.toNat+y.toNat:Nat):Int)=x*4294967296+y:=uJ;rw [e1,e2,dZ hy.1] at h1;exact h1
theorem Mp (x y:Int) (s:Nat) (hx:0≤x∧x<((2 ^ s:Nat):Int)) (hy:0≤y∧y<4294967296) (hs:s≤32) (hm:y % ((2 ^ s:Nat):Int)=0):bits .or .u32 x y=x+y:=by
 have hp:2 ^ s≤2 ^ 32:=eR uR hs;have h1:=Nb x.toNat y.toNat uJ uJ;have hm':y.toNat % 2 ^ s=0:=by
  have h2:((y.toNat % 2 ^ s:Nat):Int)=0:=by rw [Int.natCast_emod,dZ hy.1];exact hm
  exact Int.ofNat_eq_zero.1 h2
 have h3:=lY y.toNat (2 ^ s);rw [hm',fQ] at h3;have h4:=pX (b:=x.toNat) (i:=s) uJ (y.toNat / 2 ^ s);rw [h3] at h4;rw [Nat.or_comm,←h4,dZ hx.1,dZ hy.1] at h1;rw [h1];omega
section
variable {P:Program} {e:B0} {H:Hp} {G:A3} {ty:TypeId} {t t':TypeId} {x y:Operand} {m n:Int} {k:IntKind}
theorem PL (hx:e.ev x=some (.int .u64 m)) (hy:e.ev y=some (.int k 32)) (h0:0≤m):Qy P (.binOp .shr t x y t') ty e H G (.int .u64 (m / 4294967296)):=by
 have h:=pO (P:=P) (H:=H) (G:=G) (ty:=ty) (t:=t) (t':=t') hx hy uR;have e1:m.fdiv (2 ^ (Min.min (32:Int).toNat IntKind.u64.bits))=m / 4294967296:=by
  rw [show Min.min (32:Int).toNat IntKind.u64.bits=32 by decide];exact qM _ uR
 rw [e1] at h;exact h
abbrev fT:=@PL
theorem PM (hx:e.ev x=some (.int .u64 m)) (hy:e.ev y=some (.int k 32)) (h0:0≤m∧m<4294967296):Qy P (.binOp .shl t x y t') ty e H G (.int .u64 (m*4294967296)):=by
 have h:=Qy.shl (P:=P) (H:=H) (G:=G) (ty:=ty) (t:=t) (t':=t') hx hy uR;have e1:IntKind.u64.wrap (m*2 ^ (Min.min (32:Int).toNat IntKind.u64.bits))=m*4294967296:=by
  rw [show Min.min (32:Int).toNat IntKind.u64.bits=32 by decide];exact kO _ uJ
 rw [e1] at h;exact h
abbrev sB:=@PM
theorem EI {s:TypeId} (hs:(P.underlying s).isSome=true) (ht:P.underlying t=some (.int .u32)) (hx:e.ev x=some (.int .u64 m)):Qy P (.convert s t x) ty e H G (.int .u32 (m % 4294967296)):=by
 have h:=jM (P:=P) (H:=H) (G:=G) (ty:=ty) hs ht hx;rw [rF] at h;exact h
abbrev hJ:=@EI
theorem VZ (hx:e.ev x=some (.int .u64 m)) (hy:e.ev y=some (.int .u64 1)) (h0:0≤m∧m<18446744073709551616):Qy P (.binOp .and t x y t') ty e H G (.int .u64 (m % 2)):=by
 have h:=nO (P:=P) (H:=H) (G:=G) (ty:=ty) (t:=t) (t':=t') hx hy;rw [Zx m h0] at h;exact h
abbrev pW:=@VZ
theorem KW (hx:e.ev x=some (.int .u64 m)) (hy:e.ev y=some (.int .u64 4294967295)) (h0:0≤m∧m<18446744073709551616):Qy P (.binOp .and t x y t') ty e H G (.int .u64 (m % 4294967296)):=by
 have h:=nO (P:=P) (H:=H) (G:=G) (ty:=ty) (t:=t) (t':=t') hx hy;rw [Zy m h0] at h;exact h
abbrev rD:=@KW
theorem It (hx:e.ev x=some (.int .u64 (m*4294967296))) (hy:e.ev y=some (.int .u64 n)) (h0:0≤m∧m<4294967296) (h1:0≤n∧n<4294967296):Qy P (.binOp .or t x y t') ty e H G (.int .u64 (m*4294967296+n)):=by
 have h:=Ok (P:=P) (H:=H) (G:=G) (ty:=ty) (t:=t) (t':=t') hx hy;rw [EH m n h0 h1] at h;exact h
theorem Uj (hx:e.ev x=some (.int .u64 n)) (hy:e.ev y=some (.int .u64 (m*4294967296))) (h0:0≤m∧m<4294967296) (h1:0≤n∧n<4294967296):Qy P (.binOp .or t x y t') ty e H G (.int .u64 (m*4294967296+n)):=by
 have h:=Ok (P:=P) (H:=H) (G:=G) (ty:=ty) (t:=t) (t':=t') hx hy;rw [Zz m n h0 h1] at h;exact h
theorem WA {s:Nat} (hx:e.ev x=some (.int .u64 m)) (hy:e.ev y=some (.int k (s:Int))) (h0:0≤m∧m<4294967296) (hs:s≤32):Qy P (.binOp .shl t x y t') ty e H G (.int .u64 (m*((2 ^ s:Nat):Int))):=by
 have h:=Qy.shl (P:=P) (H:=H) (G:=G) (ty:=ty) (t:=t) (t':=t') hx hy uJ;have e1:IntKind.u64.wrap (m*2 ^ (Min.min (s:Int).toNat IntKind.u64.bits))=m*((2 ^ s:Nat):Int):=by
  rw [aH,dE (aP hs uR)];have e2:(2:Int) ^ s=((2 ^ s:Nat):Int):=by rw [Int.natCast_pow];rfl
  rw [e2];have hp:(1:Int)≤((2 ^ s:Nat):Int)∧((2 ^ s:Nat):Int)≤4294967296:=by
   have h1:0<2 ^ s:=iP uR;have h2:2 ^ s≤2 ^ 32:=eR uR hs;omega
  have h3:=bG hp.2 h0.1;have h4:=lH h0.1 (show (0:Int)≤((2 ^ s:Nat):Int) by omega);exact kO _ uJ
 rw [e1] at h;exact h
theorem Nl {s:Nat} (hx:e.ev x=some (.int .u64 m)) (hy:e.ev y=some (.int k (s:Int))) (h0:0≤m) (hs:s≤32):Qy P (.binOp .shr t x y t') ty e H G (.int .u64 (m / ((2 ^ s:Nat):Int))):=by
 have h:=pO (P:=P) (H:=H) (G:=G) (ty:=ty) (t:=t) (t':=t') hx hy uJ;have e1:m.fdiv (2 ^ (Min.min (s:Int).toNat IntKind.u64.bits))=m / ((2 ^ s:Nat):Int):=by
  rw [aH,dE (aP hs uR)];have e2:(2:Int) ^ s=((2 ^ s:Nat):Int):=by rw [Int.natCast_pow];rfl
  rw [e2];exact qM _ (kP _)
 rw [e1] at h;exact h
end
theorem Xr (P s:Int):P*(s % 4294967296)+4294967296*P*(s / 4294967296)=P*s:=by
 have h:=iC s 4294967296;have e:4294967296*P*(s / 4294967296)=P*(4294967296*(s / 4294967296)):=by rw [cW 4294967296 P,dA]
 rw [e,←bQ,h]
def lg (l:List A4) (i:Nat):Int:=(l[((i:Nat):Int).toNat]?.getD default).v
theorem Aw {l:List A4} (h:A6 l) {i:Nat} (hi:i<l.length):0≤lg l i∧lg l i<4294967296:=h.at uJ
theorem Dt {l:List A4} {i:Nat} (hi:l.length≤i):lg l i=0:=by
 unfold lg;rw [aH,bF hi];rfl
theorem wD {l:List A4} (h:A6 l) (i:Nat):0≤lg l i∧lg l i<4294967296:=by
 rcases aK i l.length with h1 | h1
 · exact Aw h h1
 rw [Dt h1];decide
theorem Ha {l:List A4} {i:Nat} (h:i<l.length) (d:Int):lg (l.set i ⟨d⟩) i=d:=by
 unfold lg;rw [aH,aA (by rw [aJ];exact h),List.getElem_set_self];rfl
theorem zU {l:List A4} {i j:Nat} (h:i≠j) (d:A4):lg (l.set i d) j=lg l j:=by
 unfold lg;rw [aH,sH h]
theorem vM (l:List A4) (i:Nat):uM (l.take (i+1))=uM (l.take i)+pb i*lg l i:=by
 rcases aK i l.length with h | h
 · exact Fa h
 rw [vB h,vB uJ,Dt h,bV,cH]
theorem yB {l:List A4} {i:Nat} (h:i<l.length):uM (l.drop i)=lg l i+4294967296*uM (l.drop (i+1)):=by
 rw [eN h,wE];unfold lg;rw [aH,aA h];rfl
theorem yT (l:List A4) {m:Nat} (h:m≤l.length):uM l=uM (l.take m)+pb m*uM (l.drop m):=by
 have h1:uM l=uM (l.take m++l.drop m):=by rw [dF]
 rw [h1,wC,bI,dE h]
theorem Cy:∀ (l:List A4) (k:Nat) (d:A4),k<l.length→uM (l.set k d)=uM l+pb k*(d.v - lg l k)
 | [],k,d,h=>by simp at h
 | x :: l,0,d,_=>by
   rw [tE,wE,wE,Is];show _=_+1*(d.v - x.v);omega
 | x :: l,k+1,d,h=>by
   have ih:=Cy l k d (by simpa using h);have e:lg (x :: l) (k+1)=lg l k:=by unfold lg;rw [aH,aH,gP]
   rw [tF,wE,wE,ih,yI,e,bQ,←dA];omega
theorem vK {l:List A4} (h:A6 l) (k:Nat) {s:Int} (hs:0≤s∧s<4294967296):A6 (l.set k ⟨s⟩):=fun d hd=>by
 rcases kU hd with h1 | h1
 · exact h d h1
 subst h1;exact hs
theorem Iu (s:Int):0≤s % 4294967296∧s % 4294967296<4294967296:=⟨kA _ uR,eM _ uR⟩
def E9 (l:List A4) (n:Nat):Prop:=n≤l.length∧(∀ j,n≤j→j<l.length→(l[j]?.getD default).v=0)∧(n=0∨(l[n - 1]?.getD default).v≠0)
theorem E9.val {l:List A4} {n:Nat} (h:E9 l n):uM (l.take n)=uM l:=KV h.2.1
theorem E9.top {l:List A4} {n:Nat} (h:E9 l n):E8 (l.take n):=by
 obtain ⟨h1,h2,h3⟩:=h;rcases h3 with h3 | h3
 · subst h3;exact .inl U
 by_cases h0:n=0
 · subst h0;exact .inl U
 refine .inr ?_;rw [bI,dE h1,fO,aM (by omega)];exact h3
theorem E9.len {l:List A4} {n:Nat} (h:E9 l n):(l.take n).length=n:=by rw [bI,dE h.1]
theorem E9.pos {l:List A4} {n:Nat} (h:E9 l n) (hd:A6 l):0<n↔0<uM l:=by
 rw [←h.val];constructor
 · intro h0;exact Fb (hd.take n) h.top (fun e=>by have:=h.len;rw [e] at this;simp at this;omega)
 intro h0;rcases dD n with h1 | h1
 · rw [h1,bX,vF] at h0;omega
 exact h1
theorem Mq {l:List A4} (h:E8 l):E9 l l.length:=by
 refine ⟨aG _,fun j h1 h2=>by omega,?_⟩;rcases h with h | h
 · left;rw [h];rfl
 exact .inr h
theorem Iv {α:Type} [A2 α] {G:A3} {a:Option Addr} {c sz:Nat} {l:List α} (h:Arr G a l) (n:Nat):Arr G (C4 a c 0 sz) (l.take n):=by
 refine ⟨uV _,?_⟩;rcases h.2 with h0 | ⟨b,o,rfl,hr⟩
 · left;rw [bI];omega
 refine .inr ⟨b,o,?_,fun i v hi=>hr i v ?_⟩
 · unfold C4;split
   · rfl
   simp [Addr.add]
 have e:uT l=uT (l.take n)++uT (l.drop n):=by rw [←wB,dF]
 rw [e,bC (aR.1 hi).1];exact hi
theorem Iw {la lb r:List A4} {i:Nat} {cy s:Int} (hi:i<r.length) (hv:uM (la.take i)+uM (lb.take i)=uM (r.take i)+pb i*cy) (hs:s=cy+lg la i+lg lb i) :
 uM (la.take (i+1))+uM (lb.take (i+1))=uM ((r.set i ⟨s % 4294967296⟩).take (i+1))+pb (i+1)*(s / 4294967296):=by
 rw [vM,vM,vM (r.set i _),Ha hi,nF (aG i),yI];have h:=Xr (pb i) s;rw [hs,bQ,bQ,←hs] at h;omega
theorem Ix {la lb r:List A4} {i:Nat} {cy cy' s:Int} (hi:i<r.length) (hv:uM (la.take i) - uM (lb.take i)=uM (r.take i) - pb i*cy) (hs:s=lg la i - lg lb i - cy+4294967296*cy') :
 uM (la.take (i+1)) - uM (lb.take (i+1))=uM ((r.set i ⟨s⟩).take (i+1)) - pb (i+1)*cy':=by
 rw [vM,vM,vM (r.set i _),Ha hi,nF (aG i),yI];have h:pb i*s=pb i*lg la i - pb i*lg lb i - pb i*cy+4294967296*pb i*cy':=by
  rw [hs,bQ,kD,kD,←dA,cW (pb i) 4294967296]
 omega
theorem WB {la lb r:List A4} {n:Nat} {cy:Int} (hn:n=la.length) (hb:lb.length≤la.length) (hle:uM lb≤uM la) (hri:r.length=n) (hd:A6 r) (hc:0≤cy∧cy≤1) (hv:uM (la.take n) - uM (lb.take n)=uM (r.take n) - pb n*cy):uM r=uM la - uM lb:=by
 rw [vB uJ,vB uJ,vB uJ] at hv;have h:=wL hd;rw [hri] at h;have hcy:cy=0:=by
  rcases (show cy=0∨cy=1 by omega) with h1 | h1
  · exact h1
  rw [h1,gR] at hv;omega
 rw [hcy,bV] at hv;omega
theorem KX {r lb:List A4} {i j:Nat} {c s x A:Int} (hk:i+j<r.length) (hv:uM r+pb (i+j)*c=A+pb i*(x*uM (lb.take j))) (hs:s=c+(x*lg lb j+lg r (i+j))) :
 uM (r.set (i+j) ⟨s % 4294967296⟩)+pb (i+(j+1))*(s / 4294967296)=A+pb i*(x*uM (lb.take (j+1))):=by
 rw [Cy r (i+j) ⟨s % 4294967296⟩ hk,vM,←nK,yI];have h1:=Xr (pb (i+j)) s;have h2:pb (i+j)*s=pb (i+j)*c+(pb (i+j)*(x*lg lb j)+pb (i+j)*lg r (i+j)):=by rw [hs,bQ,bQ]
 have h3:pb i*(x*(uM (lb.take j)+pb j*lg lb j))=pb i*(x*uM (lb.take j))+pb (i+j)*(x*lg lb j):=by
  rw [bQ,bQ,Xq];congr 1;rw [dA,←dA x,cW x (pb j),dA]
 have h4:pb (i+j)*(s % 4294967296 - lg r (i+j))=pb (i+j)*(s % 4294967296) - pb (i+j)*lg r (i+j):=kD _ _ _;show uM r+pb (i+j)*(s % 4294967296 - lg r (i+j))+4294967296*pb (i+j)*(s / 4294967296)=_;rw [h3,h4];omega
theorem PN {la lb r:List A4} {i:Nat} {c:Int} (hk:i+lb.length<r.length) (hz:lg r (i+lb.length)=0) (hv:uM r+pb (i+lb.length)*c=uM (la.take i)*uM lb+pb i*(lg la i*uM (lb.take lb.length))) :
 uM (r.set (i+lb.length) ⟨c⟩)=uM (la.take (i+1))*uM lb:=by
 rw [Cy r _ _ hk,hz,vB (aG _)] at *;show uM r+pb (i+lb.length)*(c - 0)=_;rw [qA,hv,vM,kE,dA]
theorem Du {x y:Int} (hx:0≤x∧x<4294967296) (hy:0≤y∧y<4294967296):0≤x*y∧x*y≤18446744065119617025:=by
 refine ⟨lH hx.1 hy.1,?_⟩;have h1:x*y≤4294967295*y:=eU uJ hy.1;omega
theorem AA {la q:List A4} {i:Nat} {r B:Int} (hi:i<la.length) (hq:i<q.length) (hv:uM (la.drop (i+1))=uM (q.drop (i+1))*B+r) :
 uM (la.drop i)=uM ((q.set i ⟨(r*4294967296+lg la i) / B⟩).drop i)*B+(r*4294967296+lg la i) % B:=by
 rw [yB hi,yB (l:=q.set i _) (by rw [aJ];exact hq),Ha hq,sZ uJ,hv];have h:=iC (r*4294967296+lg la i) B;rw [kE,cW ((r*4294967296+lg la i) / B) B,dA 4294967296,bQ];omega
theorem KY {r a B:Int} (hr:0≤r∧r<B) (ha:0≤a∧a<4294967296):0≤(r*4294967296+a) / B∧(r*4294967296+a) / B<4294967296:=by
 refine ⟨nQ uJ uJ,mE uJ ?_⟩;have h1:=eU (show r+1≤B by omega) (show (0:Int)≤4294967296 by decide);rw [cW 4294967296 B];omega
theorem PO {lb:List A4} (h:lb.length=1):uM lb=lg lb 0:=by
 match lb,h with
 | [d],_=>rw [Ey];rfl
theorem PP {x y:A4} (h:x.v=y.v):x=y:=by cases x;cases y;simp only at h;rw [h]
theorem Pe {la lb:List A4} {k:Nat} (hn:la.length=lb.length) (h:∀ j,k≤j→j<la.length→lg la j=lg lb j):la.drop k=lb.drop k:=by
 refine dW fun i=>?_;rw [eW,eW];rcases aK (k+i) la.length with h1 | h1
 · have h2:=h (k+i) uJ h1;unfold lg at h2;rw [aH] at h2;rw [aA h1,aA uJ] at h2 ⊢;exact congrArg some (PP h2)
 rw [bF h1,bF uJ]
theorem AB {la lb:List A4} {k:Nat} (hn:la.length=lb.length) (hk:k<la.length) (da:A6 la) (db:A6 lb) (h:∀ j,k+1≤j→j<la.length→lg la j=lg lb j) (hlt:lg la k<lg lb k):uM la<uM lb:=by
 have e:=Pe hn h;have h1:=yT la (show k+1≤la.length by omega);have h2:=yT lb (show k+1≤lb.length by omega);rw [e] at h1;rw [vM] at h1 h2;have h3:=wL (da.take k);rw [bI,dE uJ] at h3;have h4:=vD (db.take k);have h5:=bG (show lg la k+1≤lg lb k by omega) (cN (xV k));rw [bQ,gR] at h5;omega
theorem PQ {p Ul U3 Vl V2 g:Int} (hp:0<p) (hUl:Ul<p) (hVl:0≤Vl) (hg:0≤g) (h:U3<g*V2):Ul+p*U3<g*(Vl+p*V2):=by
 have h1:=bG (show U3+1≤g*V2 by omega) (cN hp);have h2:=lH hg hVl;rw [bQ,gR] at h1;rw [bQ,eE g p];omega
theorem WC {p Ul U3 Vl V2 g:Int} (hp:0<p) (hUl:0≤Ul) (hVl:0≤Vl∧Vl<p) (hg:0≤g∧g<4294967296) (hV2:4294967296≤V2) (h:g*V2≤U3):(g - 1)*(Vl+p*V2)≤Ul+p*U3:=by
 have h1:=bG h (cN hp);have h2:=bG (cN hVl.2) hg.1;have h3:=eU (cN hg.2) (cN hp);have h4:=bG hV2 (cN hp);rw [sK,eO,bQ,eE g p];rw [cW p 4294967296] at h4;omega
theorem PR {g v1 v2 high rest u2:Int} (h:g*v1+rest=high):g*(v2+4294967296*v1) - (u2+4294967296*high)=g*v2 - (rest*4294967296+u2):=by
 rw [bQ,eE g 4294967296,←h];omega
theorem PS {g v1 high rest:Int} (h:g*v1+rest=high) (hr:4294967296≤rest) (hv:0<v1) (hh:high<v1*4294967296+4294967296):g<4294967296:=by
 rcases Int.lt_or_le g 4294967296 with h1 | h1
 · exact h1
 have h2:=eU h1 (cN hv);omega
section
variable {u v:List A4} {m:Nat}
theorem WD (hu:u.length=m+3):uM u=uM (u.take m)+pb m*(lg u m+4294967296*(lg u (m+2)*4294967296+lg u (m+1))):=by
 have h0:=yT u (show m≤u.length by omega);rw [yB (l:=u) (i:=m) uJ,yB (l:=u) (i:=m+1) uJ,yB (l:=u) (i:=m+1+1) uJ,cY (show u.length≤m+1+1+1 by omega),vF] at h0;rw [h0];congr 2;show lg u m+4294967296*(lg u (m+1)+4294967296*(lg u (m+2)+4294967296*0))=_;omega
theorem PT (hv:v.length=m+2):uM v=uM (v.take m)+pb m*(lg v m+4294967296*lg v (m+1)):=by
 have h0:=yT v (show m≤v.length by omega);rw [yB (l:=v) (i:=m) uJ,yB (l:=v) (i:=m+1) uJ,cY (show v.length≤m+1+1 by omega),vF] at h0;rw [h0];congr 2;omega
theorem zF {l:List A4} (d:A6 l) (h:m≤l.length):0≤uM (l.take m)∧uM (l.take m)<pb m:=by
 have h1:=wL (d.take m);rw [bI,dE h] at h1;exact ⟨vD (d.take m),h1⟩
variable (hu:u.length=m+3) (hv:v.length=m+2) (du:A6 u) (dv:A6 v)
include hu hv du dv
theorem PU {g rest high:Int} (hh:high=lg u (m+2)*4294967296+lg u (m+1)) (h1:0<lg v (m+1)) (hg:g=high / lg v (m+1)) (hr:rest=high % lg v (m+1)) :
 g*lg v (m+1)+rest=high∧0≤g∧0≤rest∧rest<lg v (m+1)∧uM u<(g+1)*uM v:=by
 have a1:=wD du (m+2);have a2:=wD du (m+1);have a3:=wD du m;have a4:=wD dv m;have hn:0≤high:=uJ;have e1:=iC high (lg v (m+1));have e2:=eM high h1;have e3:=kA high (show lg v (m+1)≠0 by omega);have e4:=nQ hn (cN h1);rw [←hg,←hr] at e1;rw [←hr] at e2 e3;rw [←hg] at e4;rw [cW] at e1;refine ⟨by omega,e4,e3,e2,?_⟩;rw [WD hu,PT hv,←hh];refine PQ (xV m) (zF du uJ).2 (zF dv uJ).1 uJ ?_;have e5:(g+1)*lg v (m+1)=g*lg v (m+1)+lg v (m+1):=by rw [kE,eO]
 have e6:=lH (show 0≤g+1 by omega) a4.1;rw [bQ,eE (g+1) 4294967296,e5];omega
theorem am {g rest high:Int} (hh:high=lg u (m+2)*4294967296+lg u (m+1)) (h:g*lg v (m+1)+rest=high) (hg:0≤g) (hc:rest*4294967296+lg u m<g*lg v m):uM u<g*uM v:=by
 have e:=PR (v2:=lg v m) (u2:=lg u m) h;rw [WD hu,PT hv,←hh];exact PQ (xV m) (zF du uJ).2 (zF dv uJ).1 hg uJ
theorem PW {g rest high:Int} (hh:high=lg u (m+2)*4294967296+lg u (m+1)) (h:g*lg v (m+1)+rest=high) (hg:0≤g∧g<4294967296) (h1:1≤lg v (m+1)) (hc:g*lg v m≤rest*4294967296+lg u m):(g - 1)*uM v≤uM u:=by
 have e:=PR (v2:=lg v m) (u2:=lg u m) h;have a4:=wD dv m;rw [WD hu,PT hv,←hh];exact WC (xV m) (zF du uJ).1 (zF dv uJ) hg uJ uJ
end
theorem Bc {u v w:List A4} {i:Nat} {t c c' b b' s:Int} (hi:i<w.length) (hv:uM (u.take i) - t*uM (v.take i)=uM (w.take i) - pb i*(b+c)) (hc:c'=c+lg v i*t)
 (hs:s=lg u i - c' % 4294967296 - b+4294967296*b') :
 uM (u.take (i+1)) - t*uM (v.take (i+1))=uM ((w.set i ⟨s⟩).take (i+1)) - pb (i+1)*(b'+c' / 4294967296):=by
 rw [vM,vM,vM (w.set i _),Ha hi,nF (aG i),yI];have h1:=Xr (pb i) c';have h2:pb i*c'=pb i*c+t*(pb i*lg v i):=by rw [hc,bQ,cW (lg v i) t,eE t]
 have h3:pb i*s=pb i*lg u i - pb i*(c' % 4294967296) - pb i*b+4294967296*pb i*b':=by
  rw [hs,bQ,kD,kD,←dA,cW (pb i) 4294967296]
 rw [bQ] at hv;rw [bQ t,bQ (4294967296*pb i)];omega
theorem EJ {c x t:Int} (hc:0≤c∧c<4294967296) (hx:0≤x∧x<4294967296) (ht:0≤t∧t<4294967296):0≤c+x*t∧c+x*t<18446744073709551616∧0≤(c+x*t) / 4294967296∧(c+x*t) / 4294967296<4294967296∧0≤x*t∧x*t≤18446744065119617025:=by
 have h:=Du hx ht;omega
theorem PX {u v w z:List A4} {n:Nat} {g c:Int} (hu:uM w=uM u - g*uM v+pb n) (hlow:(g - 1)*uM v≤uM u) (hup:uM u<g*uM v) (hw:w.length=n) (hz:z.length=n) (hvn:uM v<pb n) (hvl:v.length≤n) (dz:A6 z) (hc:0≤c∧c≤1)
 (hs:uM (w.take n)+uM (v.take n)=uM (z.take n)+pb n*c):uM z=uM u - (g - 1)*uM v:=by
 rw [vB uJ,vB uJ,vB uJ] at hs;have h1:=vD dz;have h2:=wL dz;rw [hz] at h2;have e:(g - 1)*uM v=g*uM v - uM v:=by rw [sK,eO]
 have hc1:c=1:=by
  rcases (show c=0∨c=1 by omega) with h | h
  · rw [h,bV] at hs;omega
  exact h
 rw [hc1,gR] at hs;omega
theorem WE (p w w' q:List A4) (h:w'.length=w.length):uM (p++(w'++q))=uM (p++(w++q))+pb p.length*(uM w' - uM w):=by
 rw [wC,wC,wC,wC,h,bQ,bQ,kD];omega
theorem PY {A V q g:Int} {R R':Int} {l:List A4} {k:Nat} (hk:k<l.length) (hz:lg l k=0) (hA:A=uM l*V+R) (hR:R'=R+pb k*(-(g*V))):A=uM (l.set k ⟨g⟩)*V+R':=by
 rw [Cy l k _ hk,hz,hA,hR,qA,kE,dA,Int.mul_neg];show _=uM l*V+pb k*(g*V)+(R + -(pb k*(g*V)));omega
section
variable {P:Program} {ops:Array Oper} {rest:List Oper} {B:Bs} {e:B0} {D:List Deferred} {H:Hp} {G:A3} {K:Act→World→Prop}
 {ty:TypeId} {pos:String} {after:Array Edge} {d:Nat}
theorem WF {p w q:List A4} {m:Int} (hm:0≤m∧m<w.length):(p++(w++q))[((p.length:Int)+m).toNat]?.getD default=w[m.toNat]?.getD default:=by
 have h1:((p.length:Int)+m).toNat=p.length+m.toNat:=uJ;rw [h1,cD uJ,iQ,bC uJ]
theorem WG {p w q:List A4} {m:Int} (hm:0≤m∧m<w.length) (z:A4):(p++(w++q)).set ((p.length:Int)+m).toNat z=p++(w.set m.toNat z++q):=by
 have h1:((p.length:Int)+m).toNat=p.length+m.toNat:=uJ;rw [h1,List.set_append_right _ _ uJ,iQ,List.set_append_left _ _ uJ]
theorem HP {k:Nat} {m:Int} (hm:0≤m):k+m.toNat*1=0+((k:Int)+m).toNat*A2.sz A4+0:=by
 show k+m.toNat*1=0+((k:Int)+m).toNat*1+0;omega
theorem PZ {T:TypeId} {x:Operand} {b:Nat} {E:TypeId} {p w q:List A4} {junk:List Value} {m:Int} (t:Nat) (h1:xB P T=true) (hx:e.ev x=some (.pointer (some ⟨b,p.length+m.toNat*1,none⟩)))
 (ht:H.get t=some (some b,Row E (p++(w++q)) junk)) (hm:0≤m∧m<w.length):Qy P (.load T x) ty e H G (.int .u32 (w[m.toNat]?.getD default).v):=by
 rw [HP hm.1] at hx;refine Zo (m:=(p.length:Int)+m) t 0 h1 hx ht ⟨by omega,by rw [aI,aI];omega⟩ U ?_;rw [WF hm];rfl
abbrev mQ:=@PZ
theorem WH {T:TypeId} {x y:Operand} {b:Nat} {E:TypeId} {p w q:List A4} {junk:List Value} {m n:Int} (t:Nat) (hs:(P.info? T).map (·.size)=some 1)
 (hx:e.ev x=some (.pointer (some ⟨b,p.length+m.toNat*1,none⟩))) (hy:e.ev y=some (.int .u32 n)) (ht:H.get t=some (some b,Row E (p++(w++q)) junk)) (hm:0≤m∧m<w.length)
 (h:Wl P ops rest B ⟨e,D,(t,some b,Row E (p++(w.set m.toNat ⟨n⟩++q)) junk) :: H,G⟩ K):Wl P ops (⟨none,.store T x y,ty,pos,after,none⟩ :: rest) B ⟨e,D,H,G⟩ K:=by
 rw [HP hm.1] at hx;refine Xb (m:=(p.length:Int)+m) (z:=(⟨n⟩:A4)) t hs hx hy U ht ⟨by omega,by rw [aI,aI];omega⟩ ?_;rw [WG hm];exact h
abbrev rJ:=@WH
theorem AC {T:TypeId} {x hi mx:Operand} {a:Option Addr} {n c E sz:Nat} {k k':IntKind} {m m':Int} (hT:uX P T E sz) (hx:e.ev x=some (.slice a n c)) (hh:e.ev hi=some (.int k m)) (hh':e.ev mx=some (.int k' m')) (h0:0≤m) (h1:m≤m') (h2:m'≤c) :
 Qy P (.slice T x none (some hi) (some mx)) ty e H G (.slice (C4 a m'.toNat 0 sz) m.toNat m'.toNat):=fun ac w _ _ _ _ hk=>by
 have hr:=run_sizeOf (P:=P) w hT.2;have hu:P.underlying T=some (.slice (P.elem T)):=by simp [Program.elem,hT.1]
 have he:P.elem T=E:=by simp [Program.elem,hT.1]
 have:=run_slice_hm (P:=P) (w:=w) T a n c hu k k' m m' h0 h1 h2;simp only [execOp,hk.eval hx,fR,lX,hk.eval hh,hk.eval hh',bL,qR (P:=P) (w:=w) T _ _ _ _ hu,this,he,hr,aO,bR,sliced,C4,pY]
end
section
variable {P:Program} {ops:Array Oper} {rest:List Oper} {B:Bs} {e:B0} {D:List Deferred} {H:Hp} {G:A3} {K:Act→World→Prop}
 {ty:TypeId} {pos:String} {after:Array Edge} {d:Nat} {α:Type} [A2 α]
theorem AD {w:World} (hw:B6 H G w) {T T2 E:Nat} (hT:uX P T E (A2.sz α)) {t b:Nat} {ad:Option Addr} {c c2:Nat} {xs ys:List α} {junk:List Value}
 (ht:H.get t=some (some b,Row E xs junk)) (hsrc:Src H G ad ys) (hle:ys.length≤xs.length) :
 ∃ w',(Builtin.copy_ #[T,T2] ty #[.slice (some ⟨b,0,none⟩) xs.length c,.slice ad ys.length c2]).run P w=.ok (.int .i64 (ys.length:Int)) w'∧D2 (·=b) w w'∧w'.heap[b]?=some (Row E (ys++xs.drop ys.length) junk):=by
 have hb:=hw.own t b _ ht;have hmin:Nat.min ys.length xs.length=ys.length:=dE hle;cases hq:P.info? E with
 | none=>have:=hT.2;simp [hq] at this
 | some i =>
   have hi:i.size=A2.sz α:=by have:=hT.2;simpa [hq] using this
   rcases hsrc w hw with ⟨rfl,rfl⟩ | ⟨src,rfl,hsr⟩
   · refine ⟨w,?_,lE _ _,by simpa using hb⟩;have hm0:Nat.min (0:Nat) xs.length=0:=Nat.zero_min _;simp [Builtin.copy_,aQ hT.1,Builtin.lenOf,Builtin.firstCells,sizeOf,typeInfo,hq,storeCells,hm0,goInt]
   have hl:=kI (P:=P) w src (uT ys) hsr;have hfy:(uT ys).length=ys.length*A2.sz α:=uV ys;have hfx:(uT xs).length=xs.length*A2.sz α:=uV xs;have hmul:=dQ (A2.sz α) hle;have hfit:0+0+(uT ys).length≤((uT xs++junk).toArray).size:=by
    rw [oL,aI];omega
   have hst:=mF P b 0 E (uT ys) 0 (uT xs++junk).toArray w hb hfit (fun v hv=>eT.1 (Ii ys) v hv);refine ⟨_,?_,wR w b (((uT xs++junk).toArray.toList.take (0+0)++uT ys++(uT xs++junk).toArray.toList.drop (0+0+(uT ys).length)).toArray),?_⟩
   · rw [hfy] at hl;simp [Builtin.copy_,aQ hT.1,Builtin.lenOf,Builtin.firstCells,sizeOf,typeInfo,hq,hi,hmin,hl,hst,goInt]
   rw [mK w b _ _ E _ hb];have hsplit:uT xs=uT (xs.take ys.length)++uT (xs.drop ys.length):=by rw [←wB,dF]
   have htl:(uT (xs.take ys.length)).length=(uT ys).length:=by rw [uV,uV,bI,dE hle]
   unfold Row;rw [wB];simp only [fQ,cF,bX,gI];rw [hsplit,cU,←htl,List.drop_left,cU]
theorem Hb {x y:Operand} {T T2 E b:Nat} {ad:Option Addr} {c c2:Nat} {xs ys:List α} {junk:List Value} (t:Nat) (hn:Nat.ble (d+1) B.n=true) (hT:uX P T E (A2.sz α))
 (hx:e.ev x=some (.slice (some ⟨b,0,none⟩) xs.length c)) (hy:e.ev y=some (.slice ad ys.length c2)) (ht:H.get t=some (some b,Row E xs junk)) (hsrc:Src H G ad ys) (hle:ys.length≤xs.length)
 (h:Wl P ops rest B ⟨(d,.int .i64 (ys.length:Int)) :: e,D,(t,some b,Row E (ys++xs.drop ys.length) junk) :: H,G⟩ K) :
 Wl P ops (⟨some d,.call { callee:=.builtin .copy,args:=#[x,y],argTypes:=#[T,T2] },ty,pos,after,none⟩ :: rest) B ⟨e,D,H,G⟩ K:=by
 refine rC (v:=.int .i64 (ys.length:Int)) (x:=.value (.int .i64 (ys.length:Int))) ht (.inr ⟨U,d,U,hn⟩) (fun a w hh=>?_) h;obtain ⟨w',hrun,hu,hb⟩:=AD (c:=c) (c2:=c2) (T2:=T2) (ty:=ty) hh.mem hT ht hsrc hle;refine ⟨w',?_,hu,hb⟩;simp only [execOp,resolve,invoke,builtin,bL,bR,aO,kH,cA,jO,hh.eval hx,hh.eval hy,hrun]
end
theorem QA {P:Program} {e:B0} {H:Hp} {G:A3} {ty t t':TypeId} {x y:Operand} {m n:Int} (hx:e.ev x=some (.int .u64 m)) (hy:e.ev y=some (.int .u64 n)) (h0:m<n∧0≤m∧n≤18446744073709551615):Qy P (.binOp .sub t x y t') ty e H G (.int .u64 (m - n+18446744073709551616)):=by
 have h:=tK (P:=P) (H:=H) (G:=G) (ty:=ty) (t:=t) (t':=t') hx hy;have e1:IntKind.u64.wrap (m - n)=m - n+18446744073709551616:=by rw [pB];omega
 rw [e1] at h;exact h
abbrev sA:=@QA
theorem Pf {P:Program} {f:FuncId} {args:List Value} {G:A3} {u:Value} (h:∀ w,Calls P f args.toArray w fun e w'=>e=.returned u∧w'=w):Does P f args G [] (fun v G' Ho=>v=u∧G'=G∧Ho=[]):=
 fun w hw=>(h w).mono fun e w' he=>by
  obtain ⟨rfl,rfl⟩:=he;exact ⟨u,G,[],U,hw,cC G,lE _ _,fun b h1 h2=>absurd h2 h1,fun t b o ht=>by simp [Hp.get] at ht,U,U,U⟩
end Go.Sl
namespace Go.Proofs.YtngphgeghfdjbaaGreatDoor
open Go Go.Sl
def vJ (x y:Int):Int:=if x<y then -1 else if y<x then 1 else 0
theorem Ci {x y:Int} (h:x<y):vJ x y=-1:=aM h
theorem Dv {x y:Int} (h:y<x):vJ x y=1:=by unfold vJ;rw [aE (by omega),aM h]
theorem Iy {x y:Int} (h:x=y):vJ x y=0:=by unfold vJ;rw [aE (by omega),aE (by omega)]
theorem Pg {x y u v:Int} (h1:x<y↔u<v) (h2:y<x↔v<u):vJ x y=vJ u v:=by unfold vJ;simp only [h1,h2]
theorem xK {l m:List A4} (he:m=l.take m.length) (ht:E9 l m.length):uM m=uM l:=by rw [he];exact ht.val
theorem Fc {l m:List A4} (he:m=l.take m.length) (ht:E9 l m.length):E8 m:=by rw [he];exact ht.top
theorem xA {l m:List A4} (he:m=l.take m.length) (hd:A6 l):A6 m:=by rw [he];exact hd.take _
section
attribute [local irreducible] uM pb vJ
theorem Iz (G:A3) (a:Option Addr) (c:Nat) (l:List A4) (hl:Arr G a l) (hb:l.length≤1099511627776) (hc:l.length≤c) :
 Does Tryz.prog 150 [.slice a l.length c] G [] (fun v G' Ho=>∃ (b:Option Addr) (m:List A4),v=.slice b m.length m.length∧Arr G b m∧m=l.take m.length∧E9 l m.length∧m.length≤l.length∧G'=G∧Ho=[]):=by
 refine D0 Tryz.func150 Tryz.ntmps150 fun w=>?_;refine dN 14 [] ?_;refine kL (ι:=Nat) (fun n=>([(3,.int .i64 (n:Int)),(2,.slice none 0 0),(0,.slice a (List.length l) c)],[])) (fun n=>n≤l.length∧(∀ j,n≤j→j<l.length→(l[j]?.getD default).v=0)) (fun n=>n) (l.length) (⟨aG _,fun j h1 h2=>absurd h2 uJ⟩) fun n=>fun hk=>?_;obtain ⟨hn,hz⟩:=hk;have done:(n=0∨(l[n - 1]?.getD default).v≠0)→∃ (b:Option Addr) (m:List A4),Value.slice (C4 a n 0 1) n n=.slice b m.length m.length∧Arr G b m∧m=l.take m.length∧E9 l m.length∧m.length≤l.length∧G=G∧([]:Hp)=[]:=fun ht=>by
  have e:(l.take n).length=n:=by rw [bI,dE hn]
  refine ⟨C4 a n 0 1,l.take n,by rw [e],Iv hl n,by rw [e],?_,by rw [e];exact hn,U,U⟩;rw [e];exact ⟨hn,hz,ht⟩
 refine aL 6 [] ?_;apply gE 7 8 15 U;intro hg1;refine aF 7 [] ?_;refine fF (α:=A4) T.sl87 ?_;refine aF 1 [] ?_;refine iT 0 T.one166 ?_;refine aF 3 [] ?_;exact gO 7 0;intro hg1;refine aF 7 [] ?_;exact gO 7 0;refine bY 2 [] ?_;refine hZ (fun hc1=>?_) fun hc1=>?_;refine cJ 9 [] ?_;rotate_left;refine aL 10 [] ?_;refine aT (AC T.sl87 U U U uJ uJ uJ) ?_;refine bA 4 [] ?_;refine cZ ?_;rotate_left
 · refine dH 3 U (show _=Value.int .i64 ((n - 1:Nat):Int) by congr 1;omega) ?_;refine eH (n - 1) ?_ ?_
   · refine ⟨by omega,fun j h1 h2=>?_⟩;rcases aK j n with h3 | h3
     · have e:j=((n:Int) - 1).toNat:=uJ;rw [e];exact hc1.2
     exact hz j h3 h2
   omega
 refine done ?_;rcases dD n with h | h
 · exact .inl h
 refine .inr fun h2=>hc1 ⟨by omega,?_⟩;have e:((n:Int) - 1).toNat=n - 1:=uJ;rw [e];exact h2
theorem ZG (G:A3) (a b:Option Addr) (ca cb:Nat) (la lb:List A4) (ha:Arr G a la) (hb:Arr G b lb) (da:A6 la) (db:A6 lb) (h1:la.length≤1073741824) (h2:lb.length≤1073741824) (h3:la.length≤ca) (h4:lb.length≤cb) :
 Does Tryz.prog 98 [.slice a la.length ca,.slice b lb.length cb] G [] (fun v G' Ho=>v=.int .i64 (vJ (uM la) (uM lb))∧G'=G∧Ho=[]):=by
 refine D0 Tryz.func98 Tryz.ntmps98 fun w=>?_;refine aL 8 [] ?_;refine cQ 0 U (Iz _ _ _ _ uK uJ vG) fun v1 G1 Ho1 hle1 hp=>?_;obtain ⟨ta1,tm1,rfl,hta1,hte1,htr1,htl1,rfl,rfl⟩:=hp;refine aF 1 [] ?_;refine cQ 0 U (Iz _ _ _ _ uK uJ vG) fun v2 G2 Ho2 hle2 hp=>?_;obtain ⟨ta2,tm2,rfl,hta2,hte2,htr2,htl2,rfl,rfl⟩:=hp;refine bY 16 [] ?_;refine hZ (fun hc1=>?_) fun hc1=>?_;refine cJ 8 [] ?_;refine cZ ?_;rotate_left;refine dN 10 [] ?_;refine hZ (fun hc2=>?_) fun hc2=>?_;refine cJ 8 [] ?_;refine cZ ?_;rotate_left;refine dN 13 [] ?_;rotate_left
 · rw [←xK hte1 htr1,←xK hte2 htr2];exact ⟨by rw [Ci (Aj (xA hte1 da) (xA hte2 db) (Fc hte2 htr2) uJ)],U,U⟩
 · rw [←xK hte1 htr1,←xK hte2 htr2];exact ⟨by rw [Dv (Aj (xA hte2 db) (xA hte1 da) (Fc hte1 htr1) uJ)],U,U⟩
 rw [←xK hte1 htr1,←xK hte2 htr2];have dma:=xA hte1 da;have dmb:=xA hte2 db;have l1:=htr1.1;have l2:=htr2.1;have hn:tm1.length=tm2.length:=uJ;refine kL (ι:=Nat) (fun k=>([(5,.int .i64 ((k:Int) - 1)),(1,.slice ta2 (List.length tm2) (List.length tm2)),(0,.slice ta1 (List.length tm1) (List.length tm1))],[])) (fun k=>k≤tm1.length∧∀ j,k≤j→j<tm1.length→lg tm1 j=lg tm2 j) (fun k=>k) (tm1.length) (⟨aG _,fun j h1 h2=>absurd h2 uJ⟩) fun k=>fun hk=>?_;obtain ⟨hk1,hz⟩:=hk;rcases dD k with rfl | hpos
 · refine cJ 19 [0] ?_;refine cZ ?_;have e:tm1=tm2:=by
    have:=Pe (k:=0) hn hz;simpa using this
   exact ⟨by rw [e,Iy rfl],U,U⟩
 have e1:(tm1[((k:Int) - 1).toNat]?.getD default).v=lg tm1 (k - 1):=by
  unfold lg;rw [show (((k:Nat):Int) - 1).toNat=((k - 1:Nat):Int).toNat by omega]
 have e2:(tm2[((k:Int) - 1).toNat]?.getD default).v=lg tm2 (k - 1):=by
  unfold lg;rw [show (((k:Nat):Int) - 1).toNat=((k - 1:Nat):Int).toNat by omega]
 have hz':∀ j,(k - 1)+1≤j→j<tm1.length→lg tm1 j=lg tm2 j:=fun j h1 h2=>hz j uJ h2;refine dN 14 [1] ?_;refine gK [] [] T.mixed [[0],[1]] ?_;refine qN (α:=A4) 2 T.sl87 ?_;refine rS 3 [] 0 T.one166 ?_;refine gS [[4],[5]] ?_;refine qN (α:=A4) 6 T.sl87 ?_;refine rS 7 [] 0 T.one166 ?_;refine gS [[8],[9]] ?_;refine eI ?_;refine bE ?_;refine hZ (fun hc3=>?_) fun hc3=>?_;refine cJ 12 [] ?_;refine cZ ?_;rotate_left;refine bP ?_;refine gK [] [] T.mixed [[0],[1]] ?_;refine qN (α:=A4) 2 T.sl87 ?_;refine rS 3 [] 0 T.one166 ?_;refine gS [[4],[5]] ?_;refine qN (α:=A4) 6 T.sl87 ?_;refine rS 7 [] 0 T.one166 ?_;refine gS [[8],[9]] ?_;refine eI ?_;refine bE ?_;refine hZ (fun hc4=>?_) fun hc4=>?_;refine cJ 12 [] ?_;refine cZ ?_;rotate_left;refine cJ 9 [] ?_;rotate_left
 · exact ⟨by rw [Ci (AB hn uJ dma dmb hz' uJ)],U,U⟩
 · exact ⟨by rw [Dv (AB hn.symm uJ dmb dma (fun j h1 h2=>(hz' j h1 uJ).symm) uJ)],U,U⟩
 refine dH 5 U (show _=Value.int .i64 (((k - 1:Nat):Int) - 1) by congr 1;omega) ?_;refine eH (k - 1) ?_ ?_
 · refine ⟨by omega,fun j h1 h2=>?_⟩;rcases aK j k with h3 | h3
   · have e:j=k - 1:=uJ;rw [e];omega
   exact hz j h3 h2
 omega
theorem WI (G:A3) (a:Option Addr) (c:Nat) (l:List A4) (hl:Arr G a l) (hb:l.length≤1073741824) (hc:l.length≤c) :
 Does Tryz.prog 151 [.slice a l.length c] G [] (fun v G' Ho=>∃ (b:Option Addr) (m:List A4),v=.slice b m.length m.length∧Arr G' b m∧m=l.take m.length∧E9 l m.length∧m.length≤l.length∧Ho=[]):=by
 refine D0 Tryz.func151 Tryz.ntmps151 fun w=>?_;refine aL 8 [] ?_;refine cQ 0 U (Iz _ _ _ _ uK uJ vG) fun v1 G1 Ho1 hle1 hp=>?_;obtain ⟨ta1,tm1,rfl,hta1,hte1,htr1,htl1,rfl,rfl⟩:=hp;refine aN 7 [] ?_;refine jL (α:=A4) 0 U T.sl87 T.el166 U U uJ uJ fun b1=>?_;refine aN 7 [] ?_;refine Hb (α:=A4) 0 U T.sl87 U U U (mX uK) (by first | omega | (simp only [aI,bN,cR,aC];omega)) ?_;refine bA 9 [] ?_;have e1:(List.replicate ((tm1.length:Nat):Int).toNat (default:A4)).length=tm1.length:=by rw [aC,aH]
 refine jW 0 (Row 166 tm1 []) U (by rw [cY (by rw [e1];exact aG _),fH]) ?_;refine dH 2 U (show _=Value.slice (some ⟨b1,0,none⟩) tm1.length tm1.length by rw [e1]) ?_;refine dX 0 U (kW (xs:=tm1) (by simp only [maxLen];omega)) fun G9 hle9 hA=>?_;refine cZ ?_;exact ⟨_,tm1,U,hA,hte1,htr1,htl1,U⟩
end
def D4 (G:A3) (v:Value) (z:Int) (n:Nat):Prop:=∃ (b:Option Addr) (m:List A4),v=.slice b m.length m.length∧Arr G b m∧A6 m∧E8 m∧uM m=z∧m.length≤n
theorem D4.of {G:A3} {b:Option Addr} {l m:List A4} {z:Int} {n:Nat} (h:Arr G b m) (he:m=l.take m.length) (ht:E9 l m.length) (hd:A6 l) (hz:uM l=z) (hn:m.length≤n):D4 G (.slice b m.length m.length) z n:=
 ⟨b,m,U,h,xA he hd,Fc he ht,(xK he ht).trans hz,hn⟩
abbrev oI:=@D4.of
section
attribute [local irreducible] uM pb vJ
theorem c97 (G:A3) (a b:Option Addr) (ca cb:Nat) (la lb:List A4) (ha:Arr G a la) (hb:Arr G b lb) (da:A6 la) (db:A6 lb) (h1:la.length≤1073741824) (h2:lb.length≤1073741824) :
 Does Tryz.prog 97 [.slice a la.length ca,.slice b lb.length cb] G [] (fun v G' Ho=>D4 G' v (uM la+uM lb) (max la.length lb.length+1)∧Ho=[]):=by
 refine D0 Tryz.func97 Tryz.ntmps97 fun w=>?_;refine dN 5 [] ?_;refine Il (ι:=Option Addr×Nat×List A4×(Option Addr×Nat×List A4)) (fun (xa,ka,l1,(xb,kb,l2))=>([(0,.slice xa l1.length ka),(1,.slice xb l2.length kb),(4,.slice none 0 0)],[])) (fun (xa,ka,l1,(xb,kb,l2))=>Arr G xa l1∧Arr G xb l2∧A6 l1∧A6 l2∧l2.length≤l1.length∧l1.length≤max la.length lb.length∧uM l1+uM l2=uM la+uM lb) ?_ fun ⟨xa,ka,l1,(xb,kb,l2)⟩=>fun (hk:Arr G xa l1∧Arr G xb l2∧A6 l1∧A6 l2∧l2.length≤l1.length∧l1.length≤max la.length lb.length∧uM l1+uM l2=uM la+uM lb)=>?_
 · by_cases hlt:la.length<lb.length
   · refine cJ 16 [1] ?_;refine Ar.mt ((b,cb,lb,(a,ca,la))) ?_;exact ⟨hb,ha,db,da,by omega,by omega,Int.add_comm _ _⟩
   refine cJ 11 [0] ?_;refine Ar.mt ((a,ca,la,(b,cb,lb))) ?_;exact ⟨ha,hb,da,db,by omega,by omega,U⟩
 obtain ⟨ha1,hb1,d1,d2,hl21,hl1,hsum⟩:=hk;clear ha hb;refine aL 5 [] ?_;refine jL (α:=A4) 0 U T.sl87 T.el166 U U uJ uJ fun b1=>?_;refine bY 17 [] ?_;obtain ⟨N,hN⟩:∃ N,N=l1.length+1:=⟨_,U⟩
 have hM:((l1.length:Int)+1).toNat=N:=uJ;rw [hM];have hown:∀ r:List A4,r.length=N→A5 (some ⟨b1,0,none⟩) N r []:=fun r hr=>.inr ⟨b1,U,by rw [hr];rfl,by omega,by simp only [maxLen];omega⟩;refine iD 5 U (show _=Value.slice (some ⟨b1,0,none⟩) (List.replicate N (default:A4)).length N by rw [aC]) ?_;refine kL (ι:=Nat×Int×List A4) (fun (i,cy,r)=>([(22,.int .i64 (i:Int)),(6,.int .u64 cy),(5,.slice (some ⟨b1,0,none⟩) r.length N),(21,.int .i64 (l1.length:Int)),(20,.slice xa (List.length l1) ka),(0,.slice xa (List.length l1) ka),(1,.slice xb (List.length l2) kb),(4,.slice none 0 0)],[(0,some b1,Row 166 r [])])) (fun (i,cy,r)=>i≤l1.length∧r.length=N∧A6 r∧0≤cy∧cy≤1∧uM (l1.take i)+uM (l2.take i)=uM (r.take i)+pb i*cy) (fun (i,cy,r)=>l1.length - i) ((0,0,List.replicate N (default:A4))) (⟨aS _,aC,nV N,by decide,by decide,by rw [bX,bX,bX,bV,cH,vF];rfl⟩) fun ⟨i,cy,r⟩=>fun hk=>?_;obtain ⟨hi,hrN,hdr,hc0,hc1,hv⟩:=hk;have hor:=hown r hrN;rcases aK i l1.length with hia | hia
 · have r1:0≤(l1[(i:Int).toNat]?.getD default).v∧(l1[(i:Int).toNat]?.getD default).v<4294967296:=Aw d1 hia;rcases aK i l2.length with hib | hib
   · have r2:0≤(l2[(i:Int).toNat]?.getD default).v∧(l2[(i:Int).toNat]?.getD default).v<4294967296:=Aw d2 hib;refine aL 14 [1] ?_;refine fF (α:=A4) T.sl87 ?_;refine iT 0 T.one166 ?_;refine aN 8 [] ?_;refine aT (cI U T.u165 U uJ) ?_;refine aT (iB U U uJ) ?_;refine aN 17 [1] ?_;refine fF (α:=A4) T.sl87 ?_;refine iT 0 T.one166 ?_;refine aT (cI U T.u165 U uJ) ?_;refine aT (iB U U uJ) ?_;refine aN 8 [] ?_;refine aT (hJ U T.u166 U) ?_;refine kZ (α:=A4) T.sl87 ?_;refine fL (z:=_) 0 T.size166 U U U uK uJ U fun ho1=>?_;refine aN 4 [] ?_;refine aT (fT U U uJ) ?_;refine bA 8 [] ?_;refine jW 0 (Row 166 (r.set i (⟨(cy+(l1[(i:Int).toNat]?.getD default).v+(l2[(i:Int).toNat]?.getD default).v) % 4294967296⟩:A4)) []) U Od ?_;refine dH 5 U (show _=Value.slice (some ⟨b1,0,none⟩) (r.set i (⟨(cy+(l1[(i:Int).toNat]?.getD default).v+(l2[(i:Int).toNat]?.getD default).v) % 4294967296⟩:A4)).length N by rw [aJ]) ?_;refine eH ((i+1,(cy+(l1[(i:Int).toNat]?.getD default).v+(l2[(i:Int).toNat]?.getD default).v) / 4294967296,r.set i (⟨(cy+(l1[(i:Int).toNat]?.getD default).v+(l2[(i:Int).toNat]?.getD default).v) % 4294967296⟩:A4))) ?_ ?_
     · exact ⟨by omega,by rw [aJ];exact hrN,vK hdr _ (Iu _),by omega,by omega,Iw uJ hv U⟩
     show l1.length - (i+1)<l1.length - i;omega
   have z:=Dt hib;refine aL 14 [1] ?_;refine fF (α:=A4) T.sl87 ?_;refine iT 0 T.one166 ?_;refine aN 8 [] ?_;refine aT (cI U T.u165 U uJ) ?_;refine aT (iB U U uJ) ?_;refine aN 20 [0] ?_;refine aT (hJ U T.u166 U) ?_;refine kZ (α:=A4) T.sl87 ?_;refine fL (z:=_) 0 T.size166 U U U uK uJ U fun ho1=>?_;refine aN 4 [] ?_;refine aT (fT U U uJ) ?_;refine bA 8 [] ?_;refine jW 0 (Row 166 (r.set i (⟨(cy+(l1[(i:Int).toNat]?.getD default).v) % 4294967296⟩:A4)) []) U Od ?_;refine dH 5 U (show _=Value.slice (some ⟨b1,0,none⟩) (r.set i (⟨(cy+(l1[(i:Int).toNat]?.getD default).v) % 4294967296⟩:A4)).length N by rw [aJ]) ?_;refine eH ((i+1,(cy+(l1[(i:Int).toNat]?.getD default).v) / 4294967296,r.set i (⟨(cy+(l1[(i:Int).toNat]?.getD default).v) % 4294967296⟩:A4))) ?_ ?_
   · exact ⟨by omega,by rw [aJ];exact hrN,vK hdr _ (Iu _),by omega,by omega,Iw uJ hv (by rw [z,cH];rfl)⟩
   show l1.length - (i+1)<l1.length - i;omega
 have hii:i=l1.length:=uJ;subst hii;refine aL 18 [0] ?_;refine aT (iO U T.u166 U uJ) ?_;refine kZ (α:=A4) T.sl87 ?_;refine fL (z:=_) 0 T.size166 U U U uK uJ U fun ho1=>?_;refine aN 5 [] ?_;have hd2:=vK hdr l1.length (s:=cy) uJ;have hlen:(r.set l1.length (⟨cy⟩:A4)).length=N:=by rw [aJ];exact hrN
 have hval:uM (r.set l1.length (⟨cy⟩:A4))=uM la+uM lb:=by
  rw [vB (aG _),vB hl21] at hv;rw [←hsum,hv];have h3:=vM (r.set l1.length (⟨cy⟩:A4)) l1.length;rw [vB uJ,nF (aG _),Ha uJ] at h3;exact h3
 refine oF 0 (Row 166 (r.set l1.length (⟨cy⟩:A4)) []) U Od ?_;refine jB 56 U (show _=Value.slice (some ⟨b1,0,none⟩) (r.set l1.length (⟨cy⟩:A4)).length N by rw [aJ]) ?_;refine eC 0 U (hown _ hlen) fun G9 hle9 hA=>?_;refine cQ 1 U (Iz _ _ _ _ uK uJ vG) fun v1 G1 Ho1 hle1 hp=>?_;obtain ⟨ta1,tm1,rfl,hta1,hte1,htr1,htl1,rfl,rfl⟩:=hp;refine bA 4 [] ?_;refine cZ ?_;exact ⟨oI hta1 hte1 htr1 hd2 hval uJ,U⟩
end
section
attribute [local irreducible] uM pb vJ
theorem c99 (G:A3) (a b:Option Addr) (ca cb:Nat) (la lb:List A4) (ha:Arr G a la) (hb:Arr G b lb) (da:A6 la) (db:A6 lb) (h1:la.length≤1073741824) (h2:lb.length≤la.length) (h3:la.length≤ca) (h4:lb.length≤cb) (hle:uM lb≤uM la) :
 Does Tryz.prog 99 [.slice a la.length ca,.slice b lb.length cb] G [] (fun v G' Ho=>∃ r,v=.tuple #[r,.int .i64 0]∧D4 G' r (uM la - uM lb) la.length∧Ho=[]):=by
 have hcmp:0≤vJ (uM la) (uM lb):=by
  rcases Int.lt_or_eq_of_le hle with h | h
  · rw [Dv h];decide
  rw [Iy h.symm];decide
 refine D0 Tryz.func99 Tryz.ntmps99 fun w=>?_;refine aL 11 [] ?_;refine dC U (ZG _ _ _ _ _ _ _ uK uK uK uK uJ uJ uJ uJ) ?_;refine aN 10 [0] ?_;refine jL (α:=A4) 0 U T.sl87 T.el166 U U uJ uJ fun b1=>?_;refine bY 17 [] ?_;obtain ⟨N,hN⟩:∃ N,N=la.length:=⟨_,U⟩
 have hM:(la.length:Int).toNat=N:=uJ;rw [hM];have hown:∀ r:List A4,r.length=N→A5 (some ⟨b1,0,none⟩) N r []:=fun r hr=>.inr ⟨b1,U,by rw [hr];rfl,by omega,by simp only [maxLen];omega⟩;refine iD 6 U (show _=Value.slice (some ⟨b1,0,none⟩) (List.replicate N (default:A4)).length N by rw [aC]) ?_;refine kL (ι:=Nat×Int×List A4) (fun (i,cy,r)=>([(21,.int .i64 (i:Int)),(7,.int .u64 cy),(6,.slice (some ⟨b1,0,none⟩) r.length N),(20,.int .i64 (la.length:Int)),(19,.slice a (List.length la) ca),(5,.int .i64 0),(4,.slice none 0 0),(1,.slice b (List.length lb) cb)],[(0,some b1,Row 166 r [])])) (fun (i,cy,r)=>i≤la.length∧r.length=N∧A6 r∧0≤cy∧cy≤1∧uM (la.take i) - uM (lb.take i)=uM (r.take i) - pb i*cy) (fun (i,cy,r)=>la.length - i) ((0,0,List.replicate N (default:A4))) (⟨aS _,aC,nV N,by decide,by decide,by rw [bX,bX,bX,bV,qA,vF];rfl⟩) fun ⟨i,cy,r⟩=>fun hk=>?_;obtain ⟨hi,hrN,hdr,hc0,hc1,hv⟩:=hk;have hor:=hown r hrN;rcases aK i la.length with hia | hia
 · have r1:0≤(la[(i:Int).toNat]?.getD default).v∧(la[(i:Int).toNat]?.getD default).v<4294967296:=Aw da hia;have e1:(la[(i:Int).toNat]?.getD default).v=lg la i:=rfl;rcases aK i lb.length with hib | hib
   · have r2:0≤(lb[(i:Int).toNat]?.getD default).v∧(lb[(i:Int).toNat]?.getD default).v<4294967296:=Aw db hib;have e2:(lb[(i:Int).toNat]?.getD default).v=lg lb i:=rfl;by_cases hlt:(la[((i:Nat):Int).toNat]?.getD default).v<cy+(lb[((i:Nat):Int).toNat]?.getD default).v
     · refine aL 14 [1] ?_;refine fF (α:=A4) T.sl87 ?_;refine iT 0 T.one166 ?_;refine aN 24 [1] ?_;refine fF (α:=A4) T.sl87 ?_;refine iT 0 T.one166 ?_;refine aT (cI U T.u165 U uJ) ?_;refine aT (iB U U uJ) ?_;refine aN 6 [] ?_;refine aT (cI U T.u165 U uJ) ?_;refine aF 1 [] ?_;refine aT (sA U U uJ) ?_;refine aN 8 [] ?_;refine aT (hJ U T.u166 U) ?_;refine kZ (α:=A4) T.sl87 ?_;refine fL (z:=_) 0 T.size166 U U U uK uJ U fun ho1=>?_;refine aN 4 [] ?_;refine aT (fT U U uJ) ?_;refine aT (pW U U uJ) ?_;refine bA 8 [] ?_;have es:((la[(i:Int).toNat]?.getD default).v - (cy+(lb[(i:Int).toNat]?.getD default).v)+18446744073709551616) % 4294967296=((la[(i:Int).toNat]?.getD default).v - (cy+(lb[(i:Int).toNat]?.getD default).v)+4294967296):=uJ;have ec:((la[(i:Int).toNat]?.getD default).v - (cy+(lb[(i:Int).toNat]?.getD default).v)+18446744073709551616) / 4294967296 % 2=1:=uJ;refine dH 7 U (show _=Value.int .u64 1 by rw [ec]) ?_;refine jW 0 (Row 166 (r.set i (⟨((la[(i:Int).toNat]?.getD default).v - (cy+(lb[(i:Int).toNat]?.getD default).v)+4294967296)⟩:A4)) []) U HA ?_;refine dH 6 U (show _=Value.slice (some ⟨b1,0,none⟩) (r.set i (⟨((la[(i:Int).toNat]?.getD default).v - (cy+(lb[(i:Int).toNat]?.getD default).v)+4294967296)⟩:A4)).length N by rw [aJ]) ?_;refine eH ((i+1,1,r.set i (⟨((la[(i:Int).toNat]?.getD default).v - (cy+(lb[(i:Int).toNat]?.getD default).v)+4294967296)⟩:A4))) ?_ ?_
       · exact ⟨by omega,by rw [aJ];exact hrN,vK hdr _ uJ,by decide,by decide,Ix (cy':=1) uJ hv (by rw [←e1,←e2];omega)⟩
       show la.length - (i+1)<la.length - i;omega
     refine aL 14 [1] ?_;refine fF (α:=A4) T.sl87 ?_;refine iT 0 T.one166 ?_;refine aN 24 [1] ?_;refine fF (α:=A4) T.sl87 ?_;refine iT 0 T.one166 ?_;refine aT (cI U T.u165 U uJ) ?_;refine aT (iB U U uJ) ?_;refine aN 6 [] ?_;refine aT (cI U T.u165 U uJ) ?_;refine aF 1 [] ?_;refine aT (kV U U uJ) ?_;refine aN 8 [] ?_;refine aT (iO U T.u166 U uJ) ?_;refine kZ (α:=A4) T.sl87 ?_;refine fL (z:=_) 0 T.size166 U U U uK uJ U fun ho1=>?_;refine aN 4 [] ?_;refine aT (fT U U uJ) ?_;refine aT (pW U U uJ) ?_;refine bA 8 [] ?_;have es:((la[(i:Int).toNat]?.getD default).v - (cy+(lb[(i:Int).toNat]?.getD default).v))=((la[(i:Int).toNat]?.getD default).v - (cy+(lb[(i:Int).toNat]?.getD default).v)):=uJ;have ec:((la[(i:Int).toNat]?.getD default).v - (cy+(lb[(i:Int).toNat]?.getD default).v)) / 4294967296 % 2=0:=uJ;refine dH 7 U (show _=Value.int .u64 0 by rw [ec]) ?_;refine jW 0 (Row 166 (r.set i (⟨((la[(i:Int).toNat]?.getD default).v - (cy+(lb[(i:Int).toNat]?.getD default).v))⟩:A4)) []) U HA ?_;refine dH 6 U (show _=Value.slice (some ⟨b1,0,none⟩) (r.set i (⟨((la[(i:Int).toNat]?.getD default).v - (cy+(lb[(i:Int).toNat]?.getD default).v))⟩:A4)).length N by rw [aJ]) ?_;refine eH ((i+1,0,r.set i (⟨((la[(i:Int).toNat]?.getD default).v - (cy+(lb[(i:Int).toNat]?.getD default).v))⟩:A4))) ?_ ?_
     · exact ⟨by omega,by rw [aJ];exact hrN,vK hdr _ uJ,by decide,by decide,Ix (cy':=0) uJ hv (by rw [←e1,←e2];omega)⟩
     show la.length - (i+1)<la.length - i;omega
   have z:=Dt hib;by_cases hlt:(la[((i:Nat):Int).toNat]?.getD default).v<cy
   · refine aL 14 [1] ?_;refine fF (α:=A4) T.sl87 ?_;refine iT 0 T.one166 ?_;refine aN 25 [0] ?_;refine aT (cI U T.u165 U uJ) ?_;refine aF 1 [] ?_;refine aT (sA U U uJ) ?_;refine aN 8 [] ?_;refine aT (hJ U T.u166 U) ?_;refine kZ (α:=A4) T.sl87 ?_;refine fL (z:=_) 0 T.size166 U U U uK uJ U fun ho1=>?_;refine aN 4 [] ?_;refine aT (fT U U uJ) ?_;refine aT (pW U U uJ) ?_;refine bA 8 [] ?_;have es:((la[(i:Int).toNat]?.getD default).v - (cy)+18446744073709551616) % 4294967296=((la[(i:Int).toNat]?.getD default).v - (cy)+4294967296):=uJ;have ec:((la[(i:Int).toNat]?.getD default).v - (cy)+18446744073709551616) / 4294967296 % 2=1:=uJ;refine dH 7 U (show _=Value.int .u64 1 by rw [ec]) ?_;refine jW 0 (Row 166 (r.set i (⟨((la[(i:Int).toNat]?.getD default).v - (cy)+4294967296)⟩:A4)) []) U HA ?_;refine dH 6 U (show _=Value.slice (some ⟨b1,0,none⟩) (r.set i (⟨((la[(i:Int).toNat]?.getD default).v - (cy)+4294967296)⟩:A4)).length N by rw [aJ]) ?_;refine eH ((i+1,1,r.set i (⟨((la[(i:Int).toNat]?.getD default).v - (cy)+4294967296)⟩:A4))) ?_ ?_
     · exact ⟨by omega,by rw [aJ];exact hrN,vK hdr _ uJ,by decide,by decide,Ix (cy':=1) uJ hv (by rw [←e1,z];omega)⟩
     show la.length - (i+1)<la.length - i;omega
   refine aL 14 [1] ?_;refine fF (α:=A4) T.sl87 ?_;refine iT 0 T.one166 ?_;refine aN 25 [0] ?_;refine aT (cI U T.u165 U uJ) ?_;refine aF 1 [] ?_;refine aT (kV U U uJ) ?_;refine aN 8 [] ?_;refine aT (iO U T.u166 U uJ) ?_;refine kZ (α:=A4) T.sl87 ?_;refine fL (z:=_) 0 T.size166 U U U uK uJ U fun ho1=>?_;refine aN 4 [] ?_;refine aT (fT U U uJ) ?_;refine aT (pW U U uJ) ?_;refine bA 8 [] ?_;have es:((la[(i:Int).toNat]?.getD default).v - (cy))=((la[(i:Int).toNat]?.getD default).v - (cy)):=uJ;have ec:((la[(i:Int).toNat]?.getD default).v - (cy)) / 4294967296 % 2=0:=uJ;refine dH 7 U (show _=Value.int .u64 0 by rw [ec]) ?_;refine jW 0 (Row 166 (r.set i (⟨((la[(i:Int).toNat]?.getD default).v - (cy))⟩:A4)) []) U HA ?_;refine dH 6 U (show _=Value.slice (some ⟨b1,0,none⟩) (r.set i (⟨((la[(i:Int).toNat]?.getD default).v - (cy))⟩:A4)).length N by rw [aJ]) ?_;refine eH ((i+1,0,r.set i (⟨((la[(i:Int).toNat]?.getD default).v - (cy))⟩:A4))) ?_ ?_
   · exact ⟨by omega,by rw [aJ];exact hrN,vK hdr _ uJ,by decide,by decide,Ix (cy':=0) uJ hv (by rw [←e1,z];omega)⟩
   show la.length - (i+1)<la.length - i;omega
 have hii:i=la.length:=uJ;subst hii;refine aL 15 [0] ?_;refine eC 0 U hor fun G9 hle9 hA=>?_;refine cQ 1 U (Iz _ _ _ _ uK uJ vG) fun v1 G1 Ho1 hle1 hp=>?_;obtain ⟨ta1,tm1,rfl,hta1,hte1,htr1,htl1,rfl,rfl⟩:=hp;refine bA 5 [] ?_;refine fU ?_;exact ⟨_,U,oI hta1 hte1 htr1 hdr (WB U h2 hle uJ hdr ⟨hc0,hc1⟩ hv) uJ,U⟩
end
theorem Ja (n k:Nat):lg (List.replicate n (default:A4)) k=0:=by
 unfold lg;rw [aH,lF];split <;> rfl
section
attribute [local irreducible] uM pb vJ
theorem py (G:A3) (a b:Option Addr) (ca cb:Nat) (la lb:List A4) (ha:Arr G a la) (hb:Arr G b lb) (da:A6 la) (db:A6 lb) (h1:la.length≤536870912) (h2:lb.length≤536870912) :
 Does Tryz.prog 120 [.slice a la.length ca,.slice b lb.length cb] G [] (fun v G' Ho=>D4 G' v (uM la*uM lb) (la.length+lb.length)∧Ho=[]):=by
 refine D0 Tryz.func120 Tryz.ntmps120 fun w=>?_;refine aL 12 [] ?_;refine jL (α:=A4) 0 U T.sl87 T.el166 U U uJ uJ fun b1=>?_;refine bY 12 [] ?_;obtain ⟨N,hN⟩:∃ N,N=la.length+lb.length:=⟨_,U⟩
 have hM:((la.length:Int)+(lb.length:Int)).toNat=N:=uJ;rw [hM];have hown:∀ r:List A4,r.length=N→A5 (some ⟨b1,0,none⟩) N r []:=fun r hr=>.inr ⟨b1,U,by rw [hr];rfl,by omega,by simp only [maxLen];omega⟩;refine iD 5 U (show _=Value.slice (some ⟨b1,0,none⟩) (List.replicate N (default:A4)).length N by rw [aC]) ?_;refine kL (ι:=Nat×List A4) (fun (i,r)=>([(19,.int .i64 (i:Int)),(5,.slice (some ⟨b1,0,none⟩) r.length N),(18,.int .i64 (la.length:Int)),(17,.slice a (List.length la) ca),(4,.slice none 0 0),(1,.slice b (List.length lb) cb)],[(0,some b1,Row 166 r [])])) (fun (i,r)=>i≤la.length∧r.length=N∧A6 r∧uM r=uM (la.take i)*uM lb∧∀ k,i+lb.length≤k→lg r k=0) (fun (i,r)=>la.length - i) ((0,List.replicate N (default:A4))) (⟨aS _,aC,nV N,by rw [bX,vF,gM];exact Bp N,fun k _=>Ja N k⟩) fun ⟨i,r⟩=>fun hk=>?_;obtain ⟨hi,hrN,hdr,hv,hz⟩:=hk;rcases aK i la.length with hia | hia
 · have hxi:0≤(la[(i:Int).toNat]?.getD default).v∧(la[(i:Int).toNat]?.getD default).v<4294967296:=Aw da hia;refine aL 14 [1] ?_;refine fF (α:=A4) T.sl87 ?_;refine iT 0 T.one166 ?_;refine bY 18 [] ?_;refine kL (ι:=Nat×Int×List A4) (fun (j,c,s)=>([(26,.int .i64 (j:Int)),(8,.int .u64 c),(5,.slice (some ⟨b1,0,none⟩) s.length N),(17,.slice a la.length ca),(18,.int .i64 (la.length:Int)),(25,.int .i64 (lb.length:Int)),(24,.slice b (List.length lb) cb),(7,.int .u32 (Go.Sl.A4.v (Option.getD la[Int.toNat (↑i:Int)]? default))),(6,.int .i64 (↑i:Int)),(19,.int .i64 (↑i:Int)),(4,.slice none 0 0),(1,.slice b (List.length lb) cb)],[(0,some b1,Row 166 s [])])) (fun (j,c,s)=>0≤c∧c≤4294967295∧s.length=N∧A6 s∧uM s+pb (i+j)*c=uM (la.take i)*uM lb+pb i*(lg la i*uM (lb.take j))∧j≤lb.length∧∀ k,i+lb.length≤k→lg s k=0) (fun (j,c,s)=>lb.length - j) ((0,0,r)) (⟨by decide,by decide,hrN,hdr,by rw [bV,bX,vF,bV,bV,cH,cH];exact hv,aS _,hz⟩) fun ⟨j,c,s⟩=>fun hk=>?_;obtain ⟨hc0,hc1,hsN,hds,hvs,hjl,hzs⟩:=hk;have hos:=hown s hsN;have ekk:((i:Int)+(j:Int)).toNat=i+j:=uJ;rcases aK j lb.length with hjb | hjb
   · have hyj:0≤(lb[(j:Int).toNat]?.getD default).v∧(lb[(j:Int).toNat]?.getD default).v<4294967296:=Aw db hjb;have hxy:=Du hxi hyj;have hxy2:0≤(la[(i:Int).toNat]?.getD default).v*(lb[(j:Int).toNat]?.getD default).v∧(la[(i:Int).toNat]?.getD default).v*(lb[(j:Int).toNat]?.getD default).v≤18446744073709551615:=uJ;have hsk:0≤(s[((i:Int)+(j:Int)).toNat]?.getD default).v∧(s[((i:Int)+(j:Int)).toNat]?.getD default).v<4294967296:=hds.at uJ;refine aL 14 [1] ?_;refine fF (α:=A4) T.sl87 ?_;refine iT 0 T.one166 ?_;refine aN 8 [] ?_;refine aT (cI U T.u165 U uJ) ?_;refine aF 1 [] ?_;refine aT (cI U T.u165 U uJ) ?_;refine aT (oW U U vG) ?_;refine aF 4 [] ?_;refine kZ (α:=A4) T.sl87 ?_;refine Wl.lo 0 0 T.one166 ?_;refine aT (cI U T.u165 U uJ) ?_;refine aT (iB U U uJ) ?_;refine aT (iB U U uJ) ?_;refine aN 10 [] ?_;refine aT (hJ U T.u166 U) ?_;refine kZ (α:=A4) T.sl87 ?_;refine fL (z:=_) 0 T.size166 U U U uK uJ U fun ho1=>?_;refine aN 4 [] ?_;refine aT (fT U U uJ) ?_;refine bA 8 [] ?_;rw [ekk] at ⊢ hsk;refine dH 5 U (show _=Value.slice (some ⟨b1,0,none⟩) (s.set (i+j) (⟨(c+((la[(i:Int).toNat]?.getD default).v*(lb[(j:Int).toNat]?.getD default).v+(s[i+j]?.getD default).v)) % 4294967296⟩:A4)).length N by rw [aJ]) ?_;refine eH ((j+1,(c+((la[(i:Int).toNat]?.getD default).v*(lb[(j:Int).toNat]?.getD default).v+(s[i+j]?.getD default).v)) / 4294967296,s.set (i+j) (⟨(c+((la[(i:Int).toNat]?.getD default).v*(lb[(j:Int).toNat]?.getD default).v+(s[i+j]?.getD default).v)) % 4294967296⟩:A4))) ?_ ?_
     · exact ⟨by omega,by omega,by rw [aJ];exact hsN,vK hds _ (Iu _),KX uJ hvs (by simp only [lg,aH]),by omega,fun k hk=>by rw [zU uJ];exact hzs k hk⟩
     show lb.length - (j+1)<lb.length - j;omega
   have hjj:j=lb.length:=uJ;subst hjj;refine aL 19 [0] ?_;refine aT (iO U T.u166 U uJ) ?_;refine kZ (α:=A4) T.sl87 ?_;refine fL (z:=_) 0 T.size166 U U U uK uJ U fun ho1=>?_;refine bA 7 [] ?_;rw [ekk];refine dH 5 U (show _=Value.slice (some ⟨b1,0,none⟩) (s.set (i+lb.length) (⟨c⟩:A4)).length N by rw [aJ]) ?_;refine eH ((i+1,s.set (i+lb.length) (⟨c⟩:A4))) ?_ ?_
   · exact ⟨by omega,by rw [aJ];exact hsN,vK hds _ uJ,PN uJ (hzs _ (aG _)) hvs,fun k hk=>by rw [zU uJ];exact hzs k uJ⟩
   show la.length - (i+1)<la.length - i;omega
 have hor:=hown r hrN;rw [vB hia] at hv;refine aL 15 [0] ?_;refine eC 0 U hor fun G9 hle9 hA=>?_;refine cQ 1 U (Iz _ _ _ _ uK uJ vG) fun v1 G1 Ho1 hle1 hp=>?_;obtain ⟨ta1,tm1,rfl,hta1,hte1,htr1,htl1,rfl,rfl⟩:=hp;refine bA 4 [] ?_;refine cZ ?_;exact ⟨oI hta1 hte1 htr1 hdr hv uJ,U⟩
theorem ii (G:A3) (a:Option Addr) (ca:Nat) (la:List A4) (B:Int) (ha:Arr G a la) (da:A6 la) (h1:la.length≤1073741824) (hB:0<B) (hB2:B<4294967296) :
 Does Tryz.prog 198 [.slice a la.length ca,.int .u32 B] G [] (fun v G' Ho=>∃ r q m,v=.tuple #[r,.int .u32 m,.int .i64 0]∧D4 G' r q la.length∧uM la=q*B+m∧0≤m∧m<B∧Ho=[]):=by
 refine D0 Tryz.func198 Tryz.ntmps198 fun w=>?_;refine aL 21 [0] ?_;refine jL (α:=A4) 0 U T.sl87 T.el166 U U uJ uJ fun b1=>?_;refine bY 18 [] ?_;obtain ⟨N,hN⟩:∃ N,N=la.length:=⟨_,U⟩
 have hM:(la.length:Int).toNat=N:=uJ;rw [hM];have hown:∀ r:List A4,r.length=N→A5 (some ⟨b1,0,none⟩) N r []:=fun r hr=>.inr ⟨b1,U,by rw [hr];rfl,by omega,by simp only [maxLen];omega⟩;refine iD 7 U (show _=Value.slice (some ⟨b1,0,none⟩) (List.replicate N (default:A4)).length N by rw [aC]) ?_;refine kL (ι:=Nat×Int×List A4) (fun (k,r,q)=>([(9,.int .i64 ((k:Int) - 1)),(8,.int .u64 r),(7,.slice (some ⟨b1,0,none⟩) q.length N),(6,.int .i64 0),(5,.int .u32 0),(4,.slice none 0 0),(0,.slice a (List.length la) ca),(1,.int .u32 B)],[(0,some b1,Row 166 q [])])) (fun (k,r,q)=>k≤la.length∧q.length=N∧A6 q∧0≤r∧r<B∧uM (la.drop k)=uM (q.drop k)*B+r) (fun (k,r,q)=>k) ((la.length,0,List.replicate N (default:A4))) (⟨aG _,aC,nV N,by decide,hB,by rw [cY (aG _),cY Oc,vF,gM];rfl⟩) fun ⟨k,r,q⟩=>fun hk=>?_;obtain ⟨hk1,hqN,hdq,hr0,hr1,hv⟩:=hk;have hoq:=hown q hqN;rcases dD k with rfl | hpos
 · rw [kN,kN] at hv;refine aL 16 [0] ?_;refine eC 0 U hoq fun G9 hle9 hA=>?_;refine cQ 1 U (Iz _ _ _ _ uK uJ vG) fun v1 G1 Ho1 hle1 hp=>?_;obtain ⟨ta1,tm1,rfl,hta1,hte1,htr1,htl1,rfl,rfl⟩:=hp;refine aF 1 [] ?_;refine aT (iO U T.u166 U uJ) ?_;refine bA 6 [] ?_;refine sR ?_;exact ⟨_,_,_,U,oI hta1 hte1 htr1 hdq U uJ,hv,hr0,hr1,U⟩
 obtain ⟨i,rfl⟩:∃ i,k=i+1:=⟨k - 1,by omega⟩
 have hai:=Aw da (show i<la.length by omega);have ei:(((i+1:Nat):Int) - 1).toNat=i:=uJ;have eA:(la[(((i+1:Nat):Int) - 1).toNat]?.getD default).v=lg la i:=by unfold lg;rw [ei,aH]
 have hsl:=KY ⟨hr0,hr1⟩ hai;have hsl':0≤(r*4294967296+(la[(((i+1:Nat):Int) - 1).toNat]?.getD default).v) / B∧(r*4294967296+(la[(((i+1:Nat):Int) - 1).toNat]?.getD default).v) / B≤4294967295:=by
  rw [eA];exact ⟨hsl.1,by have:=hsl.2;omega⟩
 have hrm:0≤(r*4294967296+lg la i) % B∧(r*4294967296+lg la i) % B<B:=⟨kA _ uJ,eM _ hB⟩
 refine aL 15 [1] ?_;refine aT (sB U U uJ) ?_;refine aF 2 [] ?_;refine fF (α:=A4) T.sl87 ?_;refine iT 0 T.one166 ?_;refine aT (cI U T.u165 U uJ) ?_;refine aT (It U U uJ uJ) ?_;refine aN 9 [] ?_;refine aT (cI U T.u165 U uJ) ?_;refine aT (qC U U uJ) ?_;refine aT (iO U T.u166 U uJ) ?_;refine kZ (α:=A4) T.sl87 ?_;refine fL (z:=_) 0 T.size166 U U U uK uJ U fun ho1=>?_;refine aN 5 [] ?_;refine aT (cI U T.u165 U uJ) ?_;refine aT (mG U U uJ) ?_;refine bA 9 [] ?_;rw [eA];refine dH 9 U (show _=Value.int .i64 ((i:Int) - 1) by congr 1;omega) ?_;refine jW 0 (Row 166 (q.set i ⟨(r*4294967296+lg la i) / B⟩) []) U (by rw [ei]) ?_;refine dH 7 U (show _=Value.slice (some ⟨b1,0,none⟩) (q.set i ⟨(r*4294967296+lg la i) / B⟩).length N by rw [aJ]) ?_;refine eH ((i,(r*4294967296+lg la i) % B,q.set i ⟨(r*4294967296+lg la i) / B⟩)) ?_ ?_
 · exact ⟨by omega,by rw [aJ];exact hqN,vK hdq _ hsl,hrm.1,hrm.2,AA uJ uJ hv⟩
 show i<i+1;omega
end
theorem HQ {r s:List A4} {i:Nat} (h:s.drop i=r.drop i):lg s i=lg r i:=by
 have e:s[i]?=r[i]?:=by
  have:=congrArg (·[0]?) h;simpa [eW] using this
 unfold lg;rw [aH,e]
theorem yC {r s:List A4} {i:Nat} (h:s.drop i=r.drop i) (d:A4):(s.set i d).drop (i+1)=r.drop (i+1):=by
 rw [sZ uJ,←qJ,←qJ,h]
section
attribute [local irreducible] uM pb vJ
theorem pz (G:A3) (b:Nat) (p u q:List A4) (junk:List Value) (cw:Nat) (v:Option Addr) (cv:Nat) (lv:List A4) (t:Int) (hv:Arr G v lv) (du:A6 u) (dv:A6 lv) (h1:u.length≤1073741824) (h2:lv.length<u.length) (ht:0≤t∧t<4294967296) :
 Does Tryz.prog 247 [.slice (some ⟨b,p.length,none⟩) u.length cw,.slice v lv.length cv,.int .u64 t] G [(0,some b,Row 166 (p++(u++q)) junk)] (fun r G' Ho=>∃ (w:List A4) (o:Int),r=.bool (decide (0<o))∧Ho=[(0,some b,Row 166 (p++(w++q)) junk)]∧G'=G∧(o=0∨o=1)∧w.length=u.length∧A6 w∧uM u - t*uM lv=uM w - pb u.length*o):=by
 refine D0 Tryz.func247 Tryz.ntmps247 fun w=>?_;refine dN 20 [] ?_;refine kL (ι:=Nat×Int×Int×List A4) (fun (i,c,o,w)=>([(13,.int .i64 (i:Int)),(7,.int .u64 c),(8,.int .u64 o),(12,.int .i64 (u.length:Int)),(6,.bool Bool.false),(0,.slice (some (Addr.mk b (List.length p) none)) (List.length u) cw),(1,.slice v (List.length lv) cv),(2,.int .u64 t)],[(0,some b,Row 166 (p++(w++q)) junk)])) (fun (i,c,o,w)=>i≤u.length∧w.length=u.length∧A6 w∧0≤c∧c<4294967296∧0≤o∧o≤1∧(lv.length<i→c=0)∧w.drop i=u.drop i∧uM (u.take i) - t*uM (lv.take i)=uM (w.take i) - pb i*(o+c)) (fun (i,c,o,w)=>u.length - i) ((0,0,0,u)) (⟨aS _,U,du,by decide,by decide,by decide,by decide,fun _=>rfl,U,by rw [bX,bX,vF,bV,cH,bV]⟩) fun ⟨i,c,o,w⟩=>fun hk=>?_;obtain ⟨hi,hwn,hdw,hc0,hc1,ho0,ho1,hcz,hdrop,hval⟩:=hk;rcases aK i u.length with hia | hia
 · have hx:0≤(w[(i:Int).toNat]?.getD default).v∧(w[(i:Int).toNat]?.getD default).v<4294967296:=Aw hdw uJ;have ex:(w[(i:Int).toNat]?.getD default).v=lg u i:=HQ hdrop;rcases aK i lv.length with hib | hib
   · have hy:0≤(lv[(i:Int).toNat]?.getD default).v∧(lv[(i:Int).toNat]?.getD default).v<4294967296:=Aw dv hib;have hca:=EJ ⟨hc0,hc1⟩ hy ht;have hm:0≤(lv[(i:Int).toNat]?.getD default).v*t∧(lv[(i:Int).toNat]?.getD default).v*t≤18446744073709551615:=uJ;by_cases hlt:(w[((i:Nat):Int).toNat]?.getD default).v<(c+(lv[((i:Nat):Int).toNat]?.getD default).v*t) % 4294967296
     · refine aL 31 [1,1] ?_;refine fF (α:=A4) T.sl87 ?_;refine iT 0 T.one166 ?_;refine aT (cI U T.u165 U uJ) ?_;refine aF 1 [] ?_;refine aT (oW U U vG) ?_;refine aT (iB U U uJ) ?_;refine aN 7 [] ?_;refine aT (dV T.sl87 U U uJ) ?_;refine aT (mQ 0 T.one166 U U uJ) ?_;refine aT (cI U T.u165 U uJ) ?_;refine aF 1 [] ?_;refine aT (rD U U uJ) ?_;refine aT (sA U U uJ) ?_;refine aF 1 [] ?_;refine aT (kV U U uJ) ?_;refine aN 6 [] ?_;refine aT (fT U U uJ) ?_;refine aN 8 [] ?_;refine aT (hJ U T.u166 U) ?_;refine aT (dV T.sl87 U U uJ) ?_;refine rJ 0 T.size166 U U U uJ ?_;refine aN 4 [] ?_;refine aT (fT U U uJ) ?_;refine aT (pW U U uJ) ?_;refine bA 8 [] ?_;have es:((w[(i:Int).toNat]?.getD default).v - (c+(lv[(i:Int).toNat]?.getD default).v*t) % 4294967296+18446744073709551616 - o) % 4294967296=((w[(i:Int).toNat]?.getD default).v - (c+(lv[(i:Int).toNat]?.getD default).v*t) % 4294967296 - o+4294967296*1):=uJ;have ec:((w[(i:Int).toNat]?.getD default).v - (c+(lv[(i:Int).toNat]?.getD default).v*t) % 4294967296+18446744073709551616 - o) / 4294967296 % 2=1:=uJ;refine dH 8 U (show _=Value.int .u64 1 by rw [ec]) ?_;refine jW 0 (Row 166 (p++(w.set i (⟨((w[(i:Int).toNat]?.getD default).v - (c+(lv[(i:Int).toNat]?.getD default).v*t) % 4294967296 - o+4294967296*1)⟩:A4)++q)) junk) U Tw ?_;refine eH ((i+1,(c+(lv[(i:Int).toNat]?.getD default).v*t) / 4294967296,1,w.set i (⟨((w[(i:Int).toNat]?.getD default).v - (c+(lv[(i:Int).toNat]?.getD default).v*t) % 4294967296 - o+4294967296*1)⟩:A4))) ?_ ?_
       · exact ⟨by omega,by rw [aJ];exact hwn,vK hdw _ uJ,by omega,by omega,by decide,by decide,by omega,yC hdrop _,Bc (c':=(c+(lv[(i:Int).toNat]?.getD default).v*t)) (b:=o) (b':=1) uJ hval (by rfl) (by rw [←ex])⟩
       show u.length - (i+1)<u.length - i;omega
     by_cases hlt2:(w[((i:Nat):Int).toNat]?.getD default).v - (c+(lv[((i:Nat):Int).toNat]?.getD default).v*t) % 4294967296<o
     · refine aL 31 [1,1] ?_;refine fF (α:=A4) T.sl87 ?_;refine iT 0 T.one166 ?_;refine aT (cI U T.u165 U uJ) ?_;refine aF 1 [] ?_;refine aT (oW U U vG) ?_;refine aT (iB U U uJ) ?_;refine aN 7 [] ?_;refine aT (dV T.sl87 U U uJ) ?_;refine aT (mQ 0 T.one166 U U uJ) ?_;refine aT (cI U T.u165 U uJ) ?_;refine aF 1 [] ?_;refine aT (rD U U uJ) ?_;refine aT (kV U U uJ) ?_;refine aF 1 [] ?_;refine aT (sA U U uJ) ?_;refine aN 6 [] ?_;refine aT (fT U U uJ) ?_;refine aN 8 [] ?_;refine aT (hJ U T.u166 U) ?_;refine aT (dV T.sl87 U U uJ) ?_;refine rJ 0 T.size166 U U U uJ ?_;refine aN 4 [] ?_;refine aT (fT U U uJ) ?_;refine aT (pW U U uJ) ?_;refine bA 8 [] ?_;have es:((w[(i:Int).toNat]?.getD default).v - (c+(lv[(i:Int).toNat]?.getD default).v*t) % 4294967296 - o+18446744073709551616) % 4294967296=((w[(i:Int).toNat]?.getD default).v - (c+(lv[(i:Int).toNat]?.getD default).v*t) % 4294967296 - o+4294967296*1):=uJ;have ec:((w[(i:Int).toNat]?.getD default).v - (c+(lv[(i:Int).toNat]?.getD default).v*t) % 4294967296 - o+18446744073709551616) / 4294967296 % 2=1:=uJ;refine dH 8 U (show _=Value.int .u64 1 by rw [ec]) ?_;refine jW 0 (Row 166 (p++(w.set i (⟨((w[(i:Int).toNat]?.getD default).v - (c+(lv[(i:Int).toNat]?.getD default).v*t) % 4294967296 - o+4294967296*1)⟩:A4)++q)) junk) U Tw ?_;refine eH ((i+1,(c+(lv[(i:Int).toNat]?.getD default).v*t) / 4294967296,1,w.set i (⟨((w[(i:Int).toNat]?.getD default).v - (c+(lv[(i:Int).toNat]?.getD default).v*t) % 4294967296 - o+4294967296*1)⟩:A4))) ?_ ?_
       · exact ⟨by omega,by rw [aJ];exact hwn,vK hdw _ uJ,by omega,by omega,by decide,by decide,by omega,yC hdrop _,Bc (c':=(c+(lv[(i:Int).toNat]?.getD default).v*t)) (b:=o) (b':=1) uJ hval (by rfl) (by rw [←ex])⟩
       show u.length - (i+1)<u.length - i;omega
     refine aL 31 [1,1] ?_;refine fF (α:=A4) T.sl87 ?_;refine iT 0 T.one166 ?_;refine aT (cI U T.u165 U uJ) ?_;refine aF 1 [] ?_;refine aT (oW U U vG) ?_;refine aT (iB U U uJ) ?_;refine aN 7 [] ?_;refine aT (dV T.sl87 U U uJ) ?_;refine aT (mQ 0 T.one166 U U uJ) ?_;refine aT (cI U T.u165 U uJ) ?_;refine aF 1 [] ?_;refine aT (rD U U uJ) ?_;refine aT (kV U U uJ) ?_;refine aF 1 [] ?_;refine aT (kV U U uJ) ?_;refine aN 6 [] ?_;refine aT (fT U U uJ) ?_;refine aN 8 [] ?_;refine aT (iO U T.u166 U uJ) ?_;refine aT (dV T.sl87 U U uJ) ?_;refine rJ 0 T.size166 U U U uJ ?_;refine aN 4 [] ?_;refine aT (fT U U uJ) ?_;refine aT (pW U U uJ) ?_;refine bA 8 [] ?_;have es:((w[(i:Int).toNat]?.getD default).v - (c+(lv[(i:Int).toNat]?.getD default).v*t) % 4294967296 - o)=((w[(i:Int).toNat]?.getD default).v - (c+(lv[(i:Int).toNat]?.getD default).v*t) % 4294967296 - o+4294967296*0):=uJ;have ec:((w[(i:Int).toNat]?.getD default).v - (c+(lv[(i:Int).toNat]?.getD default).v*t) % 4294967296 - o) / 4294967296 % 2=0:=uJ;refine dH 8 U (show _=Value.int .u64 0 by rw [ec]) ?_;refine jW 0 (Row 166 (p++(w.set i (⟨((w[(i:Int).toNat]?.getD default).v - (c+(lv[(i:Int).toNat]?.getD default).v*t) % 4294967296 - o+4294967296*0)⟩:A4)++q)) junk) U Tw ?_;refine eH ((i+1,(c+(lv[(i:Int).toNat]?.getD default).v*t) / 4294967296,0,w.set i (⟨((w[(i:Int).toNat]?.getD default).v - (c+(lv[(i:Int).toNat]?.getD default).v*t) % 4294967296 - o+4294967296*0)⟩:A4))) ?_ ?_
     · exact ⟨by omega,by rw [aJ];exact hwn,vK hdw _ uJ,by omega,by omega,by decide,by decide,by omega,yC hdrop _,Bc (c':=(c+(lv[(i:Int).toNat]?.getD default).v*t)) (b:=o) (b':=0) uJ hval (by rfl) (by rw [←ex])⟩
     show u.length - (i+1)<u.length - i;omega
   have z:=Dt hib;by_cases hlt:(w[((i:Nat):Int).toNat]?.getD default).v<(c) % 4294967296
   · refine aL 33 [1,0] ?_;refine aT (dV T.sl87 U U uJ) ?_;refine aT (mQ 0 T.one166 U U uJ) ?_;refine aT (cI U T.u165 U uJ) ?_;refine aF 1 [] ?_;refine aT (rD U U uJ) ?_;refine aT (sA U U uJ) ?_;refine aF 1 [] ?_;refine aT (kV U U uJ) ?_;refine aN 6 [] ?_;refine aT (fT U U uJ) ?_;refine aN 8 [] ?_;refine aT (hJ U T.u166 U) ?_;refine aT (dV T.sl87 U U uJ) ?_;refine rJ 0 T.size166 U U U uJ ?_;refine aN 4 [] ?_;refine aT (fT U U uJ) ?_;refine aT (pW U U uJ) ?_;refine bA 8 [] ?_;have es:((w[(i:Int).toNat]?.getD default).v - (c) % 4294967296+18446744073709551616 - o) % 4294967296=((w[(i:Int).toNat]?.getD default).v - (c) % 4294967296 - o+4294967296*1):=uJ;have ec:((w[(i:Int).toNat]?.getD default).v - (c) % 4294967296+18446744073709551616 - o) / 4294967296 % 2=1:=uJ;refine dH 8 U (show _=Value.int .u64 1 by rw [ec]) ?_;refine jW 0 (Row 166 (p++(w.set i (⟨((w[(i:Int).toNat]?.getD default).v - (c) % 4294967296 - o+4294967296*1)⟩:A4)++q)) junk) U Tw ?_;refine eH ((i+1,(c) / 4294967296,1,w.set i (⟨((w[(i:Int).toNat]?.getD default).v - (c) % 4294967296 - o+4294967296*1)⟩:A4))) ?_ ?_
     · exact ⟨by omega,by rw [aJ];exact hwn,vK hdw _ uJ,by omega,by omega,by decide,by decide,by intro _;omega,yC hdrop _,Bc (c':=(c)) (b:=o) (b':=1) uJ hval OG (by rw [←ex])⟩
     show u.length - (i+1)<u.length - i;omega
   by_cases hlt2:(w[((i:Nat):Int).toNat]?.getD default).v - (c) % 4294967296<o
   · refine aL 33 [1,0] ?_;refine aT (dV T.sl87 U U uJ) ?_;refine aT (mQ 0 T.one166 U U uJ) ?_;refine aT (cI U T.u165 U uJ) ?_;refine aF 1 [] ?_;refine aT (rD U U uJ) ?_;refine aT (kV U U uJ) ?_;refine aF 1 [] ?_;refine aT (sA U U uJ) ?_;refine aN 6 [] ?_;refine aT (fT U U uJ) ?_;refine aN 8 [] ?_;refine aT (hJ U T.u166 U) ?_;refine aT (dV T.sl87 U U uJ) ?_;refine rJ 0 T.size166 U U U uJ ?_;refine aN 4 [] ?_;refine aT (fT U U uJ) ?_;refine aT (pW U U uJ) ?_;refine bA 8 [] ?_;have es:((w[(i:Int).toNat]?.getD default).v - (c) % 4294967296 - o+18446744073709551616) % 4294967296=((w[(i:Int).toNat]?.getD default).v - (c) % 4294967296 - o+4294967296*1):=uJ;have ec:((w[(i:Int).toNat]?.getD default).v - (c) % 4294967296 - o+18446744073709551616) / 4294967296 % 2=1:=uJ;refine dH 8 U (show _=Value.int .u64 1 by rw [ec]) ?_;refine jW 0 (Row 166 (p++(w.set i (⟨((w[(i:Int).toNat]?.getD default).v - (c) % 4294967296 - o+4294967296*1)⟩:A4)++q)) junk) U Tw ?_;refine eH ((i+1,(c) / 4294967296,1,w.set i (⟨((w[(i:Int).toNat]?.getD default).v - (c) % 4294967296 - o+4294967296*1)⟩:A4))) ?_ ?_
     · exact ⟨by omega,by rw [aJ];exact hwn,vK hdw _ uJ,by omega,by omega,by decide,by decide,by intro _;omega,yC hdrop _,Bc (c':=(c)) (b:=o) (b':=1) uJ hval OG (by rw [←ex])⟩
     show u.length - (i+1)<u.length - i;omega
   refine aL 33 [1,0] ?_;refine aT (dV T.sl87 U U uJ) ?_;refine aT (mQ 0 T.one166 U U uJ) ?_;refine aT (cI U T.u165 U uJ) ?_;refine aF 1 [] ?_;refine aT (rD U U uJ) ?_;refine aT (kV U U uJ) ?_;refine aF 1 [] ?_;refine aT (kV U U uJ) ?_;refine aN 6 [] ?_;refine aT (fT U U uJ) ?_;refine aN 8 [] ?_;refine aT (iO U T.u166 U uJ) ?_;refine aT (dV T.sl87 U U uJ) ?_;refine rJ 0 T.size166 U U U uJ ?_;refine aN 4 [] ?_;refine aT (fT U U uJ) ?_;refine aT (pW U U uJ) ?_;refine bA 8 [] ?_;have es:((w[(i:Int).toNat]?.getD default).v - (c) % 4294967296 - o)=((w[(i:Int).toNat]?.getD default).v - (c) % 4294967296 - o+4294967296*0):=uJ;have ec:((w[(i:Int).toNat]?.getD default).v - (c) % 4294967296 - o) / 4294967296 % 2=0:=uJ;refine dH 8 U (show _=Value.int .u64 0 by rw [ec]) ?_;refine jW 0 (Row 166 (p++(w.set i (⟨((w[(i:Int).toNat]?.getD default).v - (c) % 4294967296 - o+4294967296*0)⟩:A4)++q)) junk) U Tw ?_;refine eH ((i+1,(c) / 4294967296,0,w.set i (⟨((w[(i:Int).toNat]?.getD default).v - (c) % 4294967296 - o+4294967296*0)⟩:A4))) ?_ ?_
   · exact ⟨by omega,by rw [aJ];exact hwn,vK hdw _ uJ,by omega,by omega,by decide,by decide,by intro _;omega,yC hdrop _,Bc (c':=(c)) (b:=o) (b':=0) uJ hval OG (by rw [←ex])⟩
   show u.length - (i+1)<u.length - i;omega
 have hii:i=u.length:=uJ;subst hii;have hc:=hcz uJ;subst hc;refine cJ 20 [0] ?_;refine rT [0] ?_;rw [vB (aG _),vB uJ,vB uJ,cH] at hval;exact ⟨w,o,U,U,U,by omega,hwn,hdw,hval⟩
end
theorem QB {u v:List A4} {m:Nat} (hu:u.length=m+3) (hv:v.length=m+2) (du:A6 u) (dv:A6 v) (h:uM u<4294967296*uM v):lg u (m+2)*4294967296+lg u (m+1)<lg v (m+1)*4294967296+4294967296:=by
 have e1:=WD hu;have e2:=PT hv;have e3:=zF dv (show m≤v.length by omega);have e4:=zF du (show m≤u.length by omega);have a0:=wD dv m;have b0:=wD du m;have hp:=xV m;generalize lg u (m+2)*4294967296+lg u (m+1)=high at *;generalize lg v (m+1)=v1 at *;generalize lg v m=v0 at *;generalize lg u m=u0 at *;refine Int.lt_of_mul_lt_mul_left (a:=pb m*4294967296) ?_ uJ;have f1:=bG (show v0+4294967296*v1+1≤v1*4294967296+4294967296 by omega) (cN hp);have f2:=lH (cN hp) b0.1;rw [bQ,gR] at f1;rw [bQ,←dA] at e1;have f3:pb m*4294967296*(v1*4294967296+4294967296)=4294967296*(pb m*(v1*4294967296+4294967296)):=by rw [cW (pb m) 4294967296,dA]
 rw [f3];omega
section
attribute [local irreducible] uM pb vJ
theorem qb (G:A3) (b:Nat) (p u q:List A4) (junk:List Value) (cw:Nat) (v:Option Addr) (cv:Nat) (lv:List A4) (m:Nat) (hv:Arr G v lv) (du:A6 u) (dv:A6 lv) (h1:u.length≤1073741824) (hu:u.length=m+3) (hl:lv.length=m+2) (htop:2147483648≤lg lv (m+1)) (hlt:uM u<4294967296*uM lv) :
 Does Tryz.prog 203 [.slice (some ⟨b,p.length,none⟩) u.length cw,.slice v lv.length cv] G [(0,some b,Row 166 (p++(u++q)) junk)] (fun r G' Ho=>∃ (w:List A4) (g:Int),r=.int .u32 g∧Ho=[(0,some b,Row 166 (p++(w++q)) junk)]∧G'=G∧0≤g∧g<4294967296∧w.length=u.length∧A6 w∧uM w=uM u - g*uM lv∧uM w<uM lv):=by
 have hU2:=wD du (m+2);have hU1:=wD du (m+1);have hU0:=wD du m;have hV1:=wD dv (m+1);have hV0:=wD dv m;have eu2:(u[((lv.length:Nat):Int).toNat]?.getD default).v=lg u (m+2):=by unfold lg;rw [hl]
 have eu1:(u[(((lv.length:Nat):Int) - 1).toNat]?.getD default).v=lg u (m+1):=by unfold lg;rw [show (((lv.length:Nat):Int) - 1).toNat=((m+1:Nat):Int).toNat by omega]
 have eu0:(u[(((lv.length:Nat):Int) - 2).toNat]?.getD default).v=lg u m:=by unfold lg;rw [show (((lv.length:Nat):Int) - 2).toNat=(m:Int).toNat by omega]
 have ev1:(lv[(((lv.length:Nat):Int) - 1).toNat]?.getD default).v=lg lv (m+1):=by unfold lg;rw [show (((lv.length:Nat):Int) - 1).toNat=((m+1:Nat):Int).toNat by omega]
 have ev0:(lv[(((lv.length:Nat):Int) - 2).toNat]?.getD default).v=lg lv m:=by unfold lg;rw [show (((lv.length:Nat):Int) - 2).toNat=(m:Int).toNat by omega]
 refine D0 Tryz.func203 Tryz.ntmps203 fun w=>?_;have hp1:0<lg lv (m+1):=uJ;obtain ⟨high,hhigh⟩:∃ high,high=lg u (m+2)*4294967296+lg u (m+1):=⟨_,U⟩
 obtain ⟨hk1,hk2,hk3,hk4,hk5⟩:=PU hu hl du dv hhigh hp1 U U;have hq:=Int.ediv_le_self (lg lv (m+1)) (show 0≤high by omega);have hVm:0<uM lv:=by
  have:=PT hl;have h3:=zF dv (show m≤lv.length by omega);have h4:=Int.mul_pos (xV m) (show 0<lg lv m+4294967296*lg lv (m+1) by omega);omega
 have hUp:uM u<4294967296*uM lv:=hlt;have hbrk:high<lg lv (m+1)*4294967296+4294967296:=hhigh▸QB hu hl du dv hlt;refine dN 5 [] ?_;refine Wc.scope ?_;refine dN 8 [] ?_;refine gK [0] [] T.mixed [[0],[1]] ?_;refine eP 2 [] U (dV T.sl87 U U uJ) ?_;refine eP 3 [0] U (mQ 0 T.one166 U U uJ) ?_;refine eP 4 [] U (cI U T.u165 U uJ) ?_;refine eP 5 [] U (sB U U uJ) ?_;refine gS [[6],[7],[8]] ?_;refine eP 9 [] U (dV T.sl87 U U uJ) ?_;refine eP 10 [0] U (mQ 0 T.one166 U U uJ) ?_;refine eP 11 [] U (cI U T.u165 U uJ) ?_;refine eP 12 [] U (It U U uJ uJ) ?_;refine gS [[13]] ?_;refine eI ?_;refine bE ?_;refine Il (ι:=Int×Int) (fun (g,r)=>([(0,.slice (some ⟨b,p.length,none⟩) u.length cw),(1,.slice v lv.length cv),(5,.int .i64 (lv.length:Int)),(7,.int .u64 g),(8,.int .u64 r),(4,.int .u32 0)],[(0,some b,Row 166 (p++(u++q)) junk)])) (fun (g,r)=>g*lg lv (m+1)+r=high∧0≤g∧g≤18446744073709551615∧0≤r∧r<4294967296∧uM u<(g+1)*uM lv) ?_ fun ⟨g,r⟩=>fun (hk:g*lg lv (m+1)+r=high∧0≤g∧g≤18446744073709551615∧0≤r∧r<4294967296∧uM u<(g+1)*uM lv)=>?_
 · refine gK [0] [] T.mixed [[0],[1],[2],[3]] ?_;refine qN (α:=A4) 4 T.sl87 ?_;refine rS 5 [0] 0 T.one166 ?_;refine eP 6 [] U (cI U T.u165 U uJ) ?_;refine eP 7 [] U (qC U U uJ) ?_;refine gS [[8],[9],[10],[11]] ?_;refine qN (α:=A4) 12 T.sl87 ?_;refine rS 13 [0] 0 T.one166 ?_;refine eP 14 [] U (cI U T.u165 U uJ) ?_;refine eP 15 [] U (mG U U uJ) ?_;refine gS [[16],[17]] ?_;refine eI ?_;refine dH 7 U (show _=Value.int .u64 (high / lg lv (m+1)) by rw [eu2,eu1,ev1,hhigh]) ?_;refine dH 8 U (show _=Value.int .u64 (high % lg lv (m+1)) by rw [eu2,eu1,ev1,hhigh]) ?_;refine Ar.mt ((high / lg lv (m+1),high % lg lv (m+1))) ?_;exact ⟨hk1,hk2,by omega,hk3,by omega,hk5⟩
 obtain ⟨hg1,hg2,hg3,hr1,hr2,hgu⟩:=hk;clear hk1 hk2 hk3 hk4 hk5 hq;refine dN 3 [] ?_;refine Il (ι:=Int) (fun gg=>([(0,.slice (some ⟨b,p.length,none⟩) u.length cw),(1,.slice v lv.length cv),(5,.int .i64 (lv.length:Int)),(7,.int .u64 gg),(4,.int .u32 0)],[(0,some b,Row 166 (p++(u++q)) junk)])) (fun gg=>0≤gg∧gg<4294967296∧uM u<(gg+1)*uM lv∧(gg - 1)*uM lv≤uM u) ?_ fun gg=>fun (hk:0≤gg∧gg<4294967296∧uM u<(gg+1)*uM lv∧(gg - 1)*uM lv≤uM u)=>?_
 · refine lD ?_;refine kL (ι:=Int×Int) (fun (g,r)=>([(7,.int .u64 g),(8,.int .u64 r),(0,.slice (some (Addr.mk b (List.length p) none)) (List.length u) cw),(1,.slice v (List.length lv) cv),(5,.int .i64 (lv.length:Int)),(4,.int .u32 0)],[(0,some b,Row 166 (p++(u++q)) junk)])) (fun (g,r)=>g*lg lv (m+1)+r=high∧0≤g∧g≤18446744073709551615∧0≤r∧r<4294967296∧uM u<(g+1)*uM lv) (fun (g,r)=>(4294967296 - r).toNat) ((g,r)) (⟨hg1,hg2,hg3,hr1,hr2,hgu⟩) fun ⟨g,r⟩=>fun (hk:g*lg lv (m+1)+r=high∧0≤g∧g≤18446744073709551615∧0≤r∧r<4294967296∧uM u<(g+1)*uM lv)=>?_;clear hg1 hg2 hg3 hr1 hr2 hgu;obtain ⟨hg1,hg2,hg3,hr1,hr2,hgu⟩:=hk;have dec:4294967296≤g∨r*4294967296+lg u m<g*lg lv m→1≤g∧(g - 1)*lg lv (m+1)+(r+lg lv (m+1))=high∧uM u<(g - 1+1)*uM lv:=fun hd=>by
    have hg0:1≤g:=by
     rcases hd with hd | hd
     · omega
     rcases (show g=0∨1≤g by omega) with h | h
     · rw [h,gM] at hd;omega
     exact h
    refine ⟨hg0,by rw [sK,eO];omega,?_⟩;rw [show g - 1+1=g by omega];rcases hd with hd | hd
    · have:=eU hd (cN hVm);omega
    exact am hu hl du dv hhigh hg1 hg2 hd
   have brk:(g - 1)*lg lv (m+1)+(r+lg lv (m+1))=high→uM u<(g - 1+1)*uM lv→4294967296≤r+lg lv (m+1)→1≤g→0≤g - 1∧g - 1<4294967296∧uM u<(g - 1+1)*uM lv∧(g - 1 - 1)*uM lv≤uM u:=fun h h2 h3 h4=>by
    have hlt':=PS h h3 hp1 hbrk;have hm0:=Du ⟨(show 0≤g - 1 by omega),hlt'⟩ hV0;exact ⟨by omega,hlt',h2,PW hu hl du dv hhigh h ⟨by omega,hlt'⟩ uJ uJ⟩
   by_cases hgb:g<4294967296
   · have hm0:=Du ⟨hg2,hgb⟩ hV0;have hm:0≤g*(lv[(((lv.length:Nat):Int) - 2).toNat]?.getD default).v∧g*(lv[(((lv.length:Nat):Int) - 2).toNat]?.getD default).v≤18446744073709551615:=by rw [ev0];omega
     by_cases hcond:r*4294967296+lg u m<g*lg lv m
     · obtain ⟨hg0,hnx,hnu⟩:=dec (.inr hcond);have hcond':r*4294967296+(u[(((lv.length:Nat):Int) - 2).toNat]?.getD default).v<g*(lv[(((lv.length:Nat):Int) - 2).toNat]?.getD default).v:=by rw [eu0,ev0];exact hcond
       refine dN 2 [] ?_;refine gK [0] [] T.mixed [[0]] ?_;refine eP 1 [] U (fT U U uJ) ?_;refine gS [[2],[3]] ?_;refine ZF 45 U vG ?_;refine gS [[4],[5],[6],[7]] ?_;refine sO 8 [] U (jH (α:=A4) T.sl87 U U uK uJ) ?_;refine sO 9 [0] U (cS T.one166 U (gZ uK uJ 0 U U)) ?_;refine sO 10 [] U (cI U T.u165 U uJ) ?_;refine sO 11 [] U (oW U U vG) ?_;refine gS [[12]] ?_;refine sO 13 [] U (sB U U uJ) ?_;refine gS [[14],[15],[16]] ?_;refine sO 17 [] U (dV T.sl87 U U uJ) ?_;refine sO 18 [0] U (mQ 0 T.one166 U U uJ) ?_;refine sO 19 [] U (cI U T.u165 U uJ) ?_;refine sO 20 [] U (It U U uJ uJ) ?_;refine gS [[21],[22]] ?_;refine eI ?_;refine rH 8 [1] ?_;refine aT (kV U U uJ) ?_;refine aN 9 [] ?_;refine fF (α:=A4) T.sl87 ?_;refine iT 0 T.one166 ?_;refine aT (cI U T.u165 U uJ) ?_;refine aT (iB U U uJ) ?_;refine aN 6 [] ?_;refine aT (fT U U uJ) ?_;refine bY 3 [] ?_;refine hZ (fun hc1=>?_) fun hc1=>?_;refine cJ 4 [] ?_;rotate_left;refine cJ 2 [] ?_;rotate_left
       · refine dH 7 U U ?_;refine Ar.mt (g - 1) ?_;exact brk hnx hnu (by rw [←ev1];omega) hg0
       refine dH 8 U (show _=Value.int .u64 (r+lg lv (m+1)) by rw [ev1]) ?_;refine eH ((g - 1,r+lg lv (m+1))) ?_ ?_
       · exact ⟨hnx,by omega,by omega,by omega,by rw [←ev1];omega,hnu⟩
       show (4294967296 - (r+lg lv (m+1))).toNat<(4294967296 - r).toNat;omega
     have hcond':¬r*4294967296+(u[(((lv.length:Nat):Int) - 2).toNat]?.getD default).v<g*(lv[(((lv.length:Nat):Int) - 2).toNat]?.getD default).v:=by rw [eu0,ev0];exact hcond
     refine dN 2 [] ?_;refine gK [0] [] T.mixed [[0]] ?_;refine eP 1 [] U (fT U U uJ) ?_;refine gS [[2],[3]] ?_;refine ZF 45 U vG ?_;refine gS [[4],[5],[6],[7]] ?_;refine sO 8 [] U (jH (α:=A4) T.sl87 U U uK uJ) ?_;refine sO 9 [0] U (cS T.one166 U (gZ uK uJ 0 U U)) ?_;refine sO 10 [] U (cI U T.u165 U uJ) ?_;refine sO 11 [] U (oW U U vG) ?_;refine gS [[12]] ?_;refine sO 13 [] U (sB U U uJ) ?_;refine gS [[14],[15],[16]] ?_;refine sO 17 [] U (dV T.sl87 U U uJ) ?_;refine sO 18 [0] U (mQ 0 T.one166 U U uJ) ?_;refine sO 19 [] U (cI U T.u165 U uJ) ?_;refine sO 20 [] U (It U U uJ uJ) ?_;refine gS [[21],[22]] ?_;refine eI ?_;refine iN 6 [0] ?_;refine Ar.mt (g) ?_;exact ⟨hg2,hgb,hgu,PW hu hl du dv hhigh hg1 ⟨hg2,hgb⟩ uJ uJ⟩
   obtain ⟨hg0,hnx,hnu⟩:=dec (.inl uJ);refine dN 2 [] ?_;refine gK [0] [] T.mixed [[0]] ?_;refine eP 1 [] U (fT U U uJ) ?_;refine gS [[2],[3]] ?_;refine DT 45 U vG ?_;refine gS [[4],[5],[6],[7],[8],[9],[10],[11],[12],[13],[14],[15],[16],[17],[18],[19],[20],[21],[22]] ?_;refine eI ?_;refine rH 8 [1] ?_;refine aT (kV U U uJ) ?_;refine aN 9 [] ?_;refine fF (α:=A4) T.sl87 ?_;refine iT 0 T.one166 ?_;refine aT (cI U T.u165 U uJ) ?_;refine aT (iB U U uJ) ?_;refine aN 6 [] ?_;refine aT (fT U U uJ) ?_;refine bY 3 [] ?_;refine hZ (fun hc1=>?_) fun hc1=>?_;refine cJ 4 [] ?_;rotate_left;refine cJ 2 [] ?_;rotate_left
   · refine dH 7 U U ?_;refine Ar.mt (g - 1) ?_;exact brk hnx hnu (by rw [←ev1];omega) hg0
   refine dH 8 U (show _=Value.int .u64 (r+lg lv (m+1)) by rw [ev1]) ?_;refine eH ((g - 1,r+lg lv (m+1))) ?_ ?_
   · exact ⟨hnx,by omega,by omega,by omega,by rw [←ev1];omega,hnu⟩
   show (4294967296 - (r+lg lv (m+1))).toNat<(4294967296 - r).toNat;omega
 clear hg1 hg2 hg3 hr1 hr2 hgu;obtain ⟨hg1,hg2,hg3,hg4⟩:=hk;refine aL 6 [] ?_;refine cQ 0 U (pz _ b p u q junk cw v cv lv gg hv du dv h1 uJ ⟨hg1,hg2⟩) fun r1 G1 Ho1 hle1 hp=>?_;obtain ⟨lw1,lo1,rfl,rfl,rfl,hlo1,hln1,hld1,hlv1⟩:=hp;have hfew:=wL hld1;have hnn:=vD hld1;rcases hlo1 with hlo1 | hlo1
 · subst hlo1;rw [bV,qA] at hlv1;refine aT (gF U) ?_;refine aN 6 [1] ?_;refine aT (iO U T.u166 U uJ) ?_;refine bA 5 [] ?_;refine oE ?_;refine rT [0] ?_;refine ⟨lw1,gg,U,U,U,hg1,hg2,hln1,hld1,hlv1.symm,?_⟩;rw [kE,eO] at hg3;omega
 subst hlo1;rw [gR,←hln1] at hlv1;have hover:uM u<gg*uM lv:=uJ;have hgp:1≤gg:=by
  rcases (show gg=0∨1≤gg by omega) with h | h
  · rw [h,gM] at hover;have:=vD du;omega
  exact h
 refine aT (gF U) ?_;refine aN 8 [0] ?_;refine aT (kV U U uJ) ?_;refine bY 17 [] ?_;refine kL (ι:=Nat×Int×List A4) (fun (i,c,z)=>([(89,.int .i64 (i:Int)),(9,.int .u64 c),(88,.int .i64 (u.length:Int)),(7,.int .u64 (gg - 1)),(0,.slice (some (Addr.mk b (List.length p) none)) (List.length u) cw),(1,.slice v (List.length lv) cv),(5,.int .i64 (lv.length:Int)),(4,.int .u32 0)],[(0,some b,Row 166 (p++(z++q)) junk)])) (fun (i,c,z)=>i≤lw1.length∧z.length=lw1.length∧A6 z∧0≤c∧c≤1∧z.drop i=lw1.drop i∧uM (lw1.take i)+uM (lv.take i)=uM (z.take i)+pb i*c) (fun (i,c,z)=>lw1.length - i) ((0,0,lw1)) (⟨aS _,U,hld1,by decide,by decide,U,by rw [bX,bX,vF,bV]⟩) fun ⟨i,c,z⟩=>fun hk=>?_;obtain ⟨hi,hzn,hzd,hc0,hc1,hdrop,hval⟩:=hk;rcases aK i lw1.length with hia | hia
 · have hx:0≤(z[(i:Int).toNat]?.getD default).v∧(z[(i:Int).toNat]?.getD default).v<4294967296:=Aw hzd uJ;have ex:(z[(i:Int).toNat]?.getD default).v=lg lw1 i:=HQ hdrop;rcases aK i lv.length with hib | hib
   · have hy:0≤(lv[(i:Int).toNat]?.getD default).v∧(lv[(i:Int).toNat]?.getD default).v<4294967296:=Aw dv hib;refine aL 22 [1] ?_;refine aT (dV T.sl87 U U uJ) ?_;refine aT (mQ 0 T.one166 U U uJ) ?_;refine aT (cI U T.u165 U uJ) ?_;refine aT (iB U U uJ) ?_;refine aN 16 [1] ?_;refine fF (α:=A4) T.sl87 ?_;refine iT 0 T.one166 ?_;refine aT (cI U T.u165 U uJ) ?_;refine aT (iB U U uJ) ?_;refine aN 8 [] ?_;refine aT (hJ U T.u166 U) ?_;refine aT (dV T.sl87 U U uJ) ?_;refine rJ 0 T.size166 U U U uJ ?_;refine aN 4 [] ?_;refine aT (fT U U uJ) ?_;refine bA 8 [] ?_;refine jW 0 (Row 166 (p++(z.set i (⟨(c+(z[(i:Int).toNat]?.getD default).v+(lv[(i:Int).toNat]?.getD default).v) % 4294967296⟩:A4)++q)) junk) U Od ?_;refine eH ((i+1,(c+(z[(i:Int).toNat]?.getD default).v+(lv[(i:Int).toNat]?.getD default).v) / 4294967296,z.set i (⟨(c+(z[(i:Int).toNat]?.getD default).v+(lv[(i:Int).toNat]?.getD default).v) % 4294967296⟩:A4))) ?_ ?_
     · exact ⟨by omega,by rw [aJ];exact hzn,vK hzd _ (Iu _),by omega,by omega,yC hdrop _,Iw uJ hval (by rw [ex];rfl)⟩
     show lw1.length - (i+1)<lw1.length - i;omega
   have hz0:=Dt hib;refine aL 22 [1] ?_;refine aT (dV T.sl87 U U uJ) ?_;refine aT (mQ 0 T.one166 U U uJ) ?_;refine aT (cI U T.u165 U uJ) ?_;refine aT (iB U U uJ) ?_;refine aN 19 [0] ?_;refine aT (hJ U T.u166 U) ?_;refine aT (dV T.sl87 U U uJ) ?_;refine rJ 0 T.size166 U U U uJ ?_;refine aN 4 [] ?_;refine aT (fT U U uJ) ?_;refine bA 8 [] ?_;refine jW 0 (Row 166 (p++(z.set i (⟨(c+(z[(i:Int).toNat]?.getD default).v) % 4294967296⟩:A4)++q)) junk) U Od ?_;refine eH ((i+1,(c+(z[(i:Int).toNat]?.getD default).v) / 4294967296,z.set i (⟨(c+(z[(i:Int).toNat]?.getD default).v) % 4294967296⟩:A4))) ?_ ?_
   · exact ⟨by omega,by rw [aJ];exact hzn,vK hzd _ (Iu _),by omega,by omega,yC hdrop _,Iw uJ hval (by rw [ex,hz0,cH])⟩
   show lw1.length - (i+1)<lw1.length - i;omega
 have hii:i=lw1.length:=uJ;subst hii;have hvl:=wL dv;have hpl:=Pc (show lv.length≤lw1.length by omega);have hback:=PX (g:=gg) (u:=u) (n:=lw1.length) uJ hg4 hover U hzn uJ uJ hzd ⟨hc0,hc1⟩ hval;refine aL 15 [0] ?_;refine aT (iO U T.u166 U uJ) ?_;refine bA 4 [] ?_;refine oE ?_;refine rT [0] ?_;refine ⟨z,gg - 1,U,U,U,by omega,by omega,by omega,hzd,hback,?_⟩;rw [sK,eO] at hback;omega
end
theorem yY {s:Nat} (hs:s≤32):∃ Q:Int,((2 ^ s:Nat):Int)*Q=4294967296∧0<Q∧0<((2 ^ s:Nat):Int):=by
 refine ⟨((2 ^ (32 - s):Nat):Int),?_,?_,?_⟩
 · rw [←dS,←kX,Nat.add_sub_cancel' hs];decide
 · have:0<2 ^ (32 - s):=iP uR;omega
 have:0<2 ^ s:=iP uR;omega
theorem KZ {X:Int} {s:Nat} (hs:s≤32) (hX:0≤X∧X<4294967296):(X*((2 ^ s:Nat):Int)) % 4294967296 % ((2 ^ s:Nat):Int)=0∧0≤X*((2 ^ s:Nat):Int) / 4294967296∧X*((2 ^ s:Nat):Int) / 4294967296<((2 ^ s:Nat):Int)∧0≤X*((2 ^ s:Nat):Int)∧X*((2 ^ s:Nat):Int)<18446744073709551616:=by
 obtain ⟨Q,h1,h2,h3⟩:=yY hs;generalize ((2 ^ s:Nat):Int)=P at *;have hn:=lH hX.1 (cN h3);have hlt:=mI hX.2 h3;have hP:P≤4294967296:=by
  have:=bG (show 1≤Q by omega) (cN h3);omega
 refine ⟨?_,nQ hn uR,mE uR (by rw [cW P];exact hlt),hn,by omega⟩;rw [Int.emod_emod_of_dvd _ ⟨Q,h1.symm⟩];exact Int.mul_emod_left X P
theorem QC {la r:List A4} {i d:Nat} {P hi lo:Int} (hk:i+d+1<r.length) (hz:lg r (i+d+1)=0) (hv:uM r=pb d*P*uM (la.take i)) (hlo:lo=lg r (i+d)+lg la i*P % 4294967296) (hhi:hi=lg la i*P / 4294967296) :
 uM ((r.set (i+d) ⟨lo⟩).set (i+d+1) ⟨hi⟩)=pb d*P*uM (la.take (i+1)):=by
 rw [Cy _ _ _ (by rw [aJ];exact hk),Cy r _ _ uJ,zU uJ,hz,vM,hv,hlo,hhi,yI,Xq];have h1:=Xr (pb i*pb d) (lg la i*P);show pb d*P*uM (la.take i)+pb i*pb d*(lg r (i+d)+lg la i*P % 4294967296 - lg r (i+d))+4294967296*(pb i*pb d)*(lg la i*P / 4294967296 - 0)=_;have e1:lg r (i+d)+lg la i*P % 4294967296 - lg r (i+d)=lg la i*P % 4294967296:=uJ;have e2:pb d*P*(pb i*lg la i)=pb i*pb d*(lg la i*P):=by
  rw [cW (pb i) (pb d),dA,dA,cW (lg la i) P,eE P]
 rw [e1,qA,bQ,e2,←h1];omega
theorem Jb {A0 A1:Int} {s:Nat} (hs:s≤32) (h0:0≤A0∧A0<4294967296) (h1:0≤A1∧A1<4294967296):((2 ^ s:Nat):Int)*(((A1*4294967296+A0) / ((2 ^ s:Nat):Int)) % 4294967296)=4294967296*(A1 % ((2 ^ s:Nat):Int))+A0 - A0 % ((2 ^ s:Nat):Int):=by
 obtain ⟨Q,hQ,hQ0,hP⟩:=yY hs;generalize ((2 ^ s:Nat):Int)=P at *;have e0:=iC A0 P;have e1:=iC A1 P;have n0:=kA A0 (oO hP);have l0:=eM A0 hP;have n1:=kA A1 (oO hP);have l1:=eM A1 hP;have q0:=nQ h0.1 (cN hP);have q0':A0 / P<Q:=mE hP (by rw [cW];omega);generalize A0 % P=r0 at *;generalize A1 % P=r1 at *;generalize A0 / P=y0 at *;generalize A1 / P=y1 at *;have e2:A1*4294967296+A0=r0+P*(A1*Q+y0):=by
  rw [bQ,eE P,hQ];omega
 have e3:(A1*4294967296+A0) / P=A1*Q+y0:=by
  rw [e2,rU _ _ (oO hP),lS n0 l0,iM]
 have e4:A1*Q+y0=r1*Q+y0+4294967296*y1:=by
  rw [←e1,kE,←hQ,Int.mul_right_comm P Q y1,dA P y1 Q];omega
 have f1:=lH n1 (cN hQ0);have f2:=eU (show r1+1≤P by omega) (cN hQ0);rw [kE,eO,hQ] at f2;have e5:(A1*Q+y0) % 4294967296=r1*Q+y0:=by
  rw [e4,Int.add_mul_emod_self_left,Int.emod_eq_of_lt uJ uJ]
 rw [e3,e5,bQ,eE P r1 Q,hQ];omega
theorem Jc {m r:List A4} {i:Nat} {P out ρ:Int} (hi:i<r.length) (hv:P*uM (r.take i)+ρ=uM (m.take i)+pb i*(lg m i % P)) (ho:P*out=4294967296*(lg m (i+1) % P)+lg m i - lg m i % P) :
 P*uM ((r.set i ⟨out⟩).take (i+1))+ρ=uM (m.take (i+1))+pb (i+1)*(lg m (i+1) % P):=by
 rw [vM (r.set i _),vM m,Ha hi,nF (aG i),yI,bQ,eE P,ho,kD,bQ,eE (pb i) 4294967296,dA];omega
theorem HR {m r:List A4} {P:Int} (hP:0<P) (hn:r.length=m.length) (hv:P*uM (r.take m.length)+lg m 0 % P=uM (m.take m.length)+pb m.length*(lg m m.length % P)):uM r=uM m / P:=by
 rw [vB uJ,vB (aG _),Dt (aG _),Int.zero_emod,bV,cH] at hv;rw [←hv,Int.add_comm,rU _ _ (oO hP),lS (kA _ (oO hP)) (eM _ hP),iM]
theorem QD {x y:Int} {s:Nat} (hs:s≤32) (hx:x<((2 ^ s:Nat):Int)) (h0:0≤x) (hy:0≤y∧y<4294967296) (hm:y % ((2 ^ s:Nat):Int)=0):0≤x+y∧x+y<4294967296:=by
 obtain ⟨Q,hQ,hQ0,hP⟩:=yY hs;generalize ((2 ^ s:Nat):Int)=P at *;refine ⟨by omega,?_⟩;have h1:=iC y P;rw [hm,iM] at h1;have h2:y / P<Q:=mE hP (by rw [cW];omega);have h3:=bG (show y / P+1≤Q by omega) (cN hP);rw [bQ,gR,hQ,h1] at h3;omega
section
attribute [local irreducible] uM pb vJ
theorem ij (G:A3) (a:Option Addr) (ca:Nat) (la:List A4) (d s:Nat) (ha:Arr G a la) (da:A6 la) (h1:la.length≤1073741824) (hs:s<32) (hd:d≤1000) :
 Does Tryz.prog 110 [.slice a la.length ca,.int .i64 ((32*d+s:Nat):Int)] G [] (fun v G' Ho=>∃ r,v=.tuple #[r,.int .i64 0]∧D4 G' r (pb d*((2 ^ s:Nat):Int)*uM la) (la.length+d+1)∧Ho=[]):=by
 refine D0 Tryz.func110 Tryz.ntmps110 fun w=>?_;have ed:((32*d+s:Nat):Int) / 32=(d:Int):=uJ;have es:((32*d+s:Nat):Int) % 32=(s:Int):=uJ;have hP:0<((2 ^ s:Nat):Int):=(yY uJ).choose_spec.2.2;refine aL 31 [0,0] ?_;refine aT (nB U U uJ) ?_;refine aF 2 [] ?_;refine jL (α:=A4) 0 U T.sl87 T.el166 U U uJ uJ fun b1=>?_;refine aN 6 [] ?_;refine aT (mG U U uJ) ?_;refine bY 12 [] ?_;obtain ⟨N,hN⟩:∃ N,N=la.length+d+1:=⟨_,U⟩
 have hM:((la.length:Int)+((32*d+s:Nat):Int) / 32+1).toNat=N:=uJ;rw [hM];have hown:∀ r:List A4,r.length=N→A5 (some ⟨b1,0,none⟩) N r []:=fun r hr=>.inr ⟨b1,U,by rw [hr];rfl,by omega,by simp only [maxLen];omega⟩;refine iD 6 U (show _=Value.slice (some ⟨b1,0,none⟩) (List.replicate N (default:A4)).length N by rw [aC]) ?_;refine iD 7 U (show _=Value.int .i64 (s:Int) by rw [es]) ?_;refine kL (ι:=Nat×List A4) (fun (i,r)=>([(26,.int .i64 (i:Int)),(6,.slice (some ⟨b1,0,none⟩) r.length N),(7,.int .i64 (↑s:Int)),(25,.int .i64 (la.length:Int)),(24,.slice a (List.length la) ca),(5,.int .i64 0),(4,.slice none 0 0),(1,.int .i64 (↑(32*d+s):Int))],[(0,some b1,Row 166 r [])])) (fun (i,r)=>i≤la.length∧r.length=N∧A6 r∧uM r=pb d*((2 ^ s:Nat):Int)*uM (la.take i)∧lg r (i+d)<((2 ^ s:Nat):Int)∧∀ k,i+d<k→lg r k=0) (fun (i,r)=>la.length - i) ((0,List.replicate N (default:A4))) (⟨aS _,aC,nV N,by rw [bX,vF,bV];exact Bp N,by rw [Ja];exact hP,fun k _=>Ja N k⟩) fun ⟨i,r⟩=>fun hk=>?_;obtain ⟨hi,hrN,hdr,hv,hlow,hz⟩:=hk;have hor:=hown r hrN;rcases aK i la.length with hia | hia
 · have hx:0≤(la[(i:Int).toNat]?.getD default).v∧(la[(i:Int).toNat]?.getD default).v<4294967296:=Aw da hia;have ekk:((i:Int)+((32*d+s:Nat):Int) / 32).toNat=i+d:=uJ;have hpt:=KZ (s:=s) uJ hx;refine aL 14 [1] ?_;refine fF (α:=A4) T.sl87 ?_;refine iT 0 T.one166 ?_;refine aN 7 [] ?_;refine aT (cI U T.u165 U uJ) ?_;refine aF 1 [] ?_;refine aT (WA U U uJ uJ) ?_;refine aN 8 [] ?_;refine aT (nB U U uJ) ?_;refine aF 1 [] ?_;refine kZ (α:=A4) T.sl87 ?_;refine Wl.lo 0 0 T.one166 ?_;refine aF 1 [] ?_;refine aT (hJ U T.u166 U) ?_;refine aT (Ok U U) ?_;refine kZ (α:=A4) T.sl87 ?_;refine fL (z:=_) 0 T.size166 U U U uK uJ U fun ho1=>?_;refine aN 6 [] ?_;refine aT (nB U U uJ) ?_;refine aF 2 [] ?_;refine kZ (α:=A4) T.sl87 ?_;obtain ⟨r1,hr1⟩:∃ r1,r1=r.set (i+d) (⟨lg r (i+d)+(la[(i:Int).toNat]?.getD default).v*((2 ^ s:Nat):Int) % 4294967296⟩:A4):=⟨_,U⟩
   have hk0:=wD hdr (i+d);have hlo:bits BinOp.or IntKind.u32 (r[((i:Int)+((32*d+s:Nat):Int) / 32).toNat]?.getD default).v ((la[(i:Int).toNat]?.getD default).v*((2 ^ s:Nat):Int) % 4294967296)=lg r (i+d)+(la[(i:Int).toNat]?.getD default).v*((2 ^ s:Nat):Int) % 4294967296:=by
    rw [ekk];exact Mp _ _ s ⟨hk0.1,hlow⟩ (Iu _) uJ hpt.1
   have hr1N:r1.length=N:=by rw [hr1,aJ];exact hrN
   have hsum:=QD (s:=s) uJ hlow hk0.1 (Iu _) hpt.1;have hd1:A6 r1:=by rw [hr1];exact vK hdr _ hsum
   have hz1:lg r1 (i+d+1)=0:=by rw [hr1,zU uJ];exact hz _ uJ
   have hor1:=hown r1 hr1N;refine oF 0 (Row 166 r1 []) U ?_ ?_
   · show Row 166 (r.set ((i:Int)+((32*d+s:Nat):Int) / 32).toNat ⟨bits BinOp.or IntKind.u32 (r[((i:Int)+((32*d+s:Nat):Int) / 32).toNat]?.getD default).v ((la[(i:Int).toNat]?.getD default).v*((2 ^ s:Nat):Int) % 4294967296)⟩) []=_;rw [hlo,ekk,hr1]
   skip;refine aT (nI (m:=(i:Int)+((32*d+s:Nat):Int) / 32+1) (c:=N) (xs:=r1) (junk:=[]) 0 0 T.one166 U U hor1 uJ U U) ?_;refine aF 1 [] ?_;refine aT (fT U U uJ) ?_;refine aT (iO U T.u166 U uJ) ?_;refine aT (Ok U U) ?_;refine kZ (α:=A4) T.sl87 ?_;refine fL (z:=_) 0 T.size166 U U U uK uJ U fun ho2=>?_;refine bA 7 [] ?_;have hhi:bits BinOp.or IntKind.u32 (r1[((i:Int)+((32*d+s:Nat):Int) / 32+1).toNat]?.getD default).v ((la[(i:Int).toNat]?.getD default).v*((2 ^ s:Nat):Int) / 4294967296)=(la[(i:Int).toNat]?.getD default).v*((2 ^ s:Nat):Int) / 4294967296:=by
    rw [show ((i:Int)+((32*d+s:Nat):Int) / 32+1).toNat=i+d+1 by omega,show (r1[i+d+1]?.getD default).v=0 by simpa only [lg,aH] using hz1,Mp 0 _ 0 uR uJ uR (Int.emod_one _),iM]
   obtain ⟨r2,hr2⟩:∃ r2,r2=r1.set (i+d+1) (⟨(la[(i:Int).toNat]?.getD default).v*((2 ^ s:Nat):Int) / 4294967296⟩:A4):=⟨_,U⟩
   refine jW 0 (Row 166 r2 []) U ?_ ?_
   · show Row 166 (r1.set ((i:Int)+((32*d+s:Nat):Int) / 32+1).toNat ⟨bits BinOp.or IntKind.u32 (r1[((i:Int)+((32*d+s:Nat):Int) / 32+1).toNat]?.getD default).v ((la[(i:Int).toNat]?.getD default).v*((2 ^ s:Nat):Int) / 4294967296)⟩) []=_;rw [hhi,show ((i:Int)+((32*d+s:Nat):Int) / 32+1).toNat=i+d+1 by omega,hr2]
   have hr2N:r2.length=N:=by rw [hr2,aJ];exact hr1N
   refine dH 6 U (show _=Value.slice (some ⟨b1,0,none⟩) r2.length N by rw [hr2N,hrN]) ?_;have hlt32:=(yY (s:=s) uJ)
   refine eH ((i+1,r2)) ?_ ?_
   · refine ⟨by omega,hr2N,by rw [hr2];exact vK hd1 _ ⟨hpt.2.1,by omega⟩,?_,?_,?_⟩
     · rw [hr2,hr1];exact QC uJ (hz _ uJ) hv U U
     · rw [show i+1+d=i+d+1 by omega,hr2,Ha uJ];exact hpt.2.2.1
     intro k hk;rw [hr2,zU uJ,hr1,zU uJ];exact hz k uJ
   show la.length - (i+1)<la.length - i;omega
 rw [vB hia] at hv;refine aL 15 [0] ?_;refine eC 0 U hor fun G9 hle9 hA=>?_;refine cQ 1 U (Iz _ _ _ _ uK uJ vG) fun v1 G1 Ho1 hle1 hp=>?_;obtain ⟨ta1,tm1,rfl,hta1,hte1,htr1,htl1,rfl,rfl⟩:=hp;refine bA 5 [] ?_;refine fU ?_;exact ⟨_,U,oI hta1 hte1 htr1 hdr hv uJ,U⟩
theorem qd (G:A3) (a:Option Addr) (ca:Nat) (la:List A4) (s:Nat) (ha:Arr G a la) (da:A6 la) (h1:la.length≤1073741824) (hca:la.length≤ca) (hs:s<32) :
 Does Tryz.prog 204 [.slice a la.length ca,.int .i64 (s:Int)] G [] (fun v G' Ho=>∃ r,v=.tuple #[r,.int .i64 0]∧D4 G' r (uM la / ((2 ^ s:Nat):Int)) la.length∧Ho=[]):=by
 refine D0 Tryz.func204 Tryz.ntmps204 fun w=>?_;have ed:(s:Int) / 32=0:=uJ;have es:(s:Int) % 32=(s:Int):=uJ;have hP:0<((2 ^ s:Nat):Int):=(yY uJ).choose_spec.2.2;refine aL 19 [0] ?_;refine cQ 0 U (Iz _ _ _ _ uK uJ vG) fun v1 G1 Ho1 hle1 hp=>?_;obtain ⟨ta1,tm1,rfl,hta1,hte1,htr1,htl1,rfl,rfl⟩:=hp;refine aN 7 [] ?_;refine aT (nB U U uJ) ?_;refine bY 5 [] ?_;refine hZ (fun hc1=>?_) fun hc1=>?_;refine cJ 8 [] ?_;refine fU ?_;rotate_left;refine aL 6 [] ?_;refine aT (nB U U uJ) ?_;refine aT (Qy.cutL T.sl87 U U uJ uJ) ?_;refine aN 6 [] ?_;refine aT (mG U U uJ) ?_;refine aN 7 [] ?_;refine jL (α:=A4) 0 U T.sl87 T.el166 U U uJ uJ fun b1=>?_;refine bY 12 [] ?_;rotate_left
 · have hz:tm1=[]:=bS uJ;have hv0:uM la=0:=by rw [←xK hte1 htr1,hz,vF]
   refine ⟨_,U,⟨none,[],U,oT _,A6.nil,E8.nil,?_,aS _⟩,U⟩;rw [hv0,Int.zero_ediv,vF]
 have dm:=xA hte1 da;have hta2:Arr G1 (C4 ta1 tm1.length 0 1) tm1:=by
  have h2:=Iv (c:=tm1.length) (sz:=1) hta1 tm1.length;rw [vB (aG _)] at h2;exact h2
 obtain ⟨tb,htb⟩:∃ tb,tb=C4 ta1 tm1.length 0 1:=⟨_,U⟩
 rw [←htb] at hta2;obtain ⟨N,hN⟩:∃ N,N=tm1.length:=⟨_,U⟩
 have hM:(((tm1.length - ((s:Int) / 32).toNat:Nat):Int)).toNat=N:=uJ;rw [hM];have hown:∀ r:List A4,r.length=N→A5 (some ⟨b1,0,none⟩) N r []:=fun r hr=>.inr ⟨b1,U,by rw [hr];rfl,by omega,by simp only [maxLen];omega⟩;refine iD 7 U (show _=Value.slice (some ⟨b1,0,none⟩) (List.replicate N (default:A4)).length N by rw [aC]) ?_;refine iD 6 U (show _=Value.int .i64 (s:Int) by rw [es]) ?_;refine iD 0 U (show _=Value.slice tb tm1.length tm1.length by rw [ed,htb];rfl) ?_;refine iD 29 U (show _=Value.slice tb tm1.length tm1.length by rw [ed,htb];rfl) ?_;refine iD 30 U (show _=Value.int .i64 (tm1.length:Int) by rw [ed];rfl) ?_;refine kL (ι:=Nat×List A4) (fun (i,r)=>([(31,.int .i64 (i:Int)),(7,.slice (some ⟨b1,0,none⟩) r.length N),(30,.int .i64 (tm1.length:Int)),(29,.slice tb (List.length tm1) (List.length tm1)),(0,.slice tb (List.length tm1) (List.length tm1)),(6,.int .i64 (↑s:Int)),(5,.int .i64 0),(4,.slice none 0 0)],[(0,some b1,Row 166 r [])])) (fun (i,r)=>i≤tm1.length∧r.length=N∧A6 r∧((2 ^ s:Nat):Int)*uM (r.take i)+lg tm1 0 % ((2 ^ s:Nat):Int)=uM (tm1.take i)+pb i*(lg tm1 i % ((2 ^ s:Nat):Int))) (fun (i,r)=>tm1.length - i) ((0,List.replicate N (default:A4))) (⟨aS _,aC,nV N,by rw [bX,bX,vF,bV,Is,eO]⟩) fun ⟨i,r⟩=>fun hk=>?_;obtain ⟨hi,hrN,hdr,hv⟩:=hk;have hor:=hown r hrN;rcases aK i tm1.length with hia | hia
 · have hx:0≤(tm1[(i:Int).toNat]?.getD default).v∧(tm1[(i:Int).toNat]?.getD default).v<4294967296:=Aw dm hia;have ex:(tm1[(i:Int).toNat]?.getD default).v=lg tm1 i:=rfl;have ex1:(tm1[((i:Int)+1).toNat]?.getD default).v=lg tm1 (i+1):=by unfold lg;rw [show ((i:Int)+1).toNat=((i+1:Nat):Int).toNat by omega]
   have hy:0≤(tm1[((i:Int)+1).toNat]?.getD default).v∧(tm1[((i:Int)+1).toNat]?.getD default).v<4294967296:=by rw [ex1];exact wD dm _
   by_cases hib:i+1<tm1.length
   · refine aL 14 [1] ?_;refine fF (α:=A4) T.sl87 ?_;refine iT 0 T.one166 ?_;refine aN 7 [] ?_;refine aT (cI U T.u165 U uJ) ?_;refine aN 19 [1] ?_;refine fF (α:=A4) T.sl87 ?_;refine aU U (cS T.one166 U (gZ uK uJ 0 U U)) ?_;refine aT (cI U T.u165 U uJ) ?_;refine aT (sB U U uJ) ?_;refine aT (Uj U U uJ uJ) ?_;refine aN 8 [] ?_;refine aT (Nl U U uJ uJ) ?_;refine aT (hJ U T.u166 U) ?_;refine aU U (dJ (α:=A4) T.sl87 U U uK uJ) ?_;refine fL (z:=_) 0 T.size166 U U U uK uJ U fun ho1=>?_;refine bA 7 [] ?_;obtain ⟨out,hout⟩:∃ out,out=((tm1[((i:Int)+1).toNat]?.getD default).v*4294967296+(tm1[(i:Int).toNat]?.getD default).v) / ((2 ^ s:Nat):Int) % 4294967296:=⟨_,U⟩
     have hpart:((2 ^ s:Nat):Int)*out=4294967296*(lg tm1 (i+1) % ((2 ^ s:Nat):Int))+lg tm1 i - lg tm1 i % ((2 ^ s:Nat):Int):=by
      rw [hout,ex,ex1];exact Jb uJ (wD dm i) (wD dm (i+1))
     refine jW 0 (Row 166 (r.set i (⟨out⟩:A4)) []) U GY ?_;refine dH 7 U (show _=Value.slice (some ⟨b1,0,none⟩) (r.set i (⟨out⟩:A4)).length N by rw [aJ]) ?_;refine eH ((i+1,r.set i (⟨out⟩:A4))) ?_ ?_
     · exact ⟨by omega,by rw [aJ];exact hrN,vK hdr _ HB,Jc uJ hv hpart⟩
     show tm1.length - (i+1)<tm1.length - i;omega
   have hz0:=Dt (show tm1.length≤i+1 by omega);refine aL 14 [1] ?_;refine fF (α:=A4) T.sl87 ?_;refine iT 0 T.one166 ?_;refine aN 7 [] ?_;refine aT (cI U T.u165 U uJ) ?_;refine aN 21 [0] ?_;refine aT (Nl U U uJ uJ) ?_;refine aT (hJ U T.u166 U) ?_;refine kZ (α:=A4) T.sl87 ?_;refine fL (z:=_) 0 T.size166 U U U uK uJ U fun ho1=>?_;refine bA 7 [] ?_;obtain ⟨out,hout⟩:∃ out,out=(tm1[(i:Int).toNat]?.getD default).v / ((2 ^ s:Nat):Int) % 4294967296:=⟨_,U⟩
   have hpart:((2 ^ s:Nat):Int)*out=4294967296*(lg tm1 (i+1) % ((2 ^ s:Nat):Int))+lg tm1 i - lg tm1 i % ((2 ^ s:Nat):Int):=by
    rw [hout,show (tm1[(i:Int).toNat]?.getD default).v=lg tm1 (i+1)*4294967296+lg tm1 i by rw [hz0,gM,iM];rfl];exact Jb uJ (wD dm i) (wD dm (i+1))
   refine jW 0 (Row 166 (r.set i (⟨out⟩:A4)) []) U GY ?_;refine dH 7 U (show _=Value.slice (some ⟨b1,0,none⟩) (r.set i (⟨out⟩:A4)).length N by rw [aJ]) ?_;refine eH ((i+1,r.set i (⟨out⟩:A4))) ?_ ?_
   · exact ⟨by omega,by rw [aJ];exact hrN,vK hdr _ HB,Jc uJ hv hpart⟩
   show tm1.length - (i+1)<tm1.length - i;omega
 have hii:i=tm1.length:=uJ;subst hii;have hval:=HR hP uJ hv;refine aL 15 [0] ?_;refine eC 0 U hor fun G9 hle9 hA=>?_;refine cQ 1 U (Iz _ _ _ _ uK uJ vG) fun v2 G2 Ho2 hle2 hp=>?_;obtain ⟨ta2,tm2,rfl,hta2,hte2,htr2,htl2,rfl,rfl⟩:=hp;refine bA 5 [] ?_;refine fU ?_;rw [xK hte1 htr1] at hval;exact ⟨_,U,oI hta2 hte2 htr2 hdr hval uJ,U⟩
end
end Go.Proofs.YtngphgeghfdjbaaGreatDoor
namespace Go.Sl
open Go
section
variable {P:Program} {ops:Array Oper} {rest:List Oper} {B:Bs} {e:B0} {D:List Deferred} {H:Hp} {G:A3} {K:Act→World→Prop}
 {ty:TypeId} {pos:String} {after:Array Edge} {d:Nat} {α:Type} [A2 α]
theorem Tc {w:World} (hw:B6 H G w) {T E bytes:Nat} {zs:List Value} (hT:uX P T E (A2.sz α)) (hE:B8 P E (A2.sz α) bytes zs) {a ad:Option Addr} {c2:Nat} {xs ys:List α}
 (hA:Src H G a xs) (hx0:0<xs.length) (hsrc:Src H G ad ys) (hy0:0<ys.length) (hb:(xs.length+ys.length)*bytes≤140737488355328) (hl:xs.length+ys.length≤maxLen) :
 ∃ c' junk' w',(Builtin.append_ #[T,T] ty #[.slice a xs.length xs.length,.slice ad ys.length c2]).run P w=.ok (.slice (some ⟨w.heap.size,0,none⟩) (xs++ys).length c') w'∧A5 (some ⟨w.heap.size,0,none⟩) c' (xs++ys) junk'∧
  D2 (fun _=>False) w w'∧w'.heap.size=w.heap.size+1∧w'.heap[w.heap.size]?=some (Row E (xs++ys) junk'):=by
 obtain ⟨i,z,hi,hz1,hz2,hs,hby,hzl,hsz⟩:=hE;have hm63:xs.length+ys.length≤9223372036854775807:=by simp only [maxLen] at hl;omega
 have hlen:(xs++ys).length=xs.length+ys.length:=aI;have hyl:(uT ys).length=ys.length*i.size:=by rw [uV,hs]
 have hxl:(uT xs).length=xs.length*i.size:=by rw [uV,hs]
 have junkLen:∀ k,(Builtin.zeroCells z.cells k).toList.length=k*A2.sz α:=fun k=>by
  rw [lB,rW,hz2];simp [hzl]
 have fresh:∀ old,old<xs.length+ys.length→∃ junk',A5 (some ⟨w.heap.size,0,none⟩) (grownCap w (xs.length+ys.length) old E) (xs++ys) junk'∧
  (w.drew.alloc (.cells ((uT xs).toArray++(uT ys).toArray++Builtin.zeroCells z.cells (grownCap w (xs.length+ys.length) old E - (xs.length+ys.length))) E)).heap[w.heap.size]?=some (Row E (xs++ys) junk'):=fun old hold=>by
  have hge:=grownCap_ge w (xs.length+ys.length) old E;have hcm:grownCap w (xs.length+ys.length) old E≤maxLen:=qE w _ old E hl;refine ⟨(Builtin.zeroCells z.cells (grownCap w (xs.length+ys.length) old E - (xs.length+ys.length))).toList,.inr ⟨_,U,?_,by rw [hlen];exact hge,hcm⟩,?_⟩
  · rw [junkLen,hlen,←eB];congr 1;omega
  rw [show w.heap.size=w.drew.heap.size from rfl,vQ];congr 1;simp [Row,wB]
 have hupd:∀ o,D2 (fun _=>False) w (w.drew.alloc o):=fun o=>(lE _ w).drew.alloc o;rcases hA w hw with ⟨_,h0⟩ | ⟨ax,rfl,hcell⟩
 · rw [h0] at hx0;simp at hx0
 rcases hsrc w hw with ⟨_,h0⟩ | ⟨src,rfl,hsr⟩
 · rw [h0] at hy0;simp at hy0
 have hr:=run_append_grow (P:=P) w T ty E i z hT.1 hi hz1 ax xs.length xs.length (uT xs) hxl hcell src ys.length c2 (uT ys) hyl hsr uJ uJ (qD uJ (by rw [hby];exact hb));obtain ⟨junk',h1,h2⟩:=fresh xs.length uJ;exact ⟨_,junk',_,by rw [hlen];exact hr,h1,hupd _,by simp,h2⟩
theorem Xs {s x:Operand} {T E bytes:Nat} {zs:List Value} {a ad:Option Addr} {c2:Nat} {xs ys:List α} (t:Nat) (hn:Nat.ble (d+1) B.n=true) (hT:uX P T E (A2.sz α)) (hE:B8 P E (A2.sz α) bytes zs)
 (hs:e.ev s=some (.slice a xs.length xs.length)) (hx:e.ev x=some (.slice ad ys.length c2)) (hA:Src H G a xs) (hx0:0<xs.length) (hsrc:Src H G ad ys) (hy0:0<ys.length)
 (hb:(xs.length+ys.length)*bytes≤140737488355328) (hl:xs.length+ys.length≤maxLen)
 (h:∀ b c' junk',A5 (some ⟨b,0,none⟩) c' (xs++ys) junk'→Wl P ops rest B ⟨(d,.slice (some ⟨b,0,none⟩) (xs++ys).length c') :: e,D,(t,some b,Row E (xs++ys) junk') :: H,G⟩ K) :
 Wl P ops (⟨some d,.call { callee:=.builtin .append,args:=#[s,x],argTypes:=#[T,T] },ty,pos,after,none⟩ :: rest) B ⟨e,D,H,G⟩ K:=by
 intro ac w hh;obtain ⟨c',junk',w',hrun,ho',hu,hsz,hbk⟩:=Tc (c2:=c2) (ty:=ty) hh.mem hT hE hA hx0 hsrc hy0 hb hl;unfold uZ;rw [aM (by simp [Region.wanted])];unfold Ag;have hex:(execOp ac.eval ⟨some d,.call { callee:=.builtin .append,args:=#[s,x],argTypes:=#[T,T] },ty,pos,after,none⟩).run P w=.ok (.value (.slice (some ⟨w.heap.size,0,none⟩) (xs++ys).length c')) w':=by
  simp only [execOp,resolve,invoke,builtin,bL,bR,aO,kH,cA,jO,hh.eval hs,hh.eval hx,hrun]
 rw [hex];exact h _ c' junk' ho' _ _ (A7.put (hh.ownNew t hu hsz hbk) hn _)
end
end Go.Sl
namespace Go.Proofs.YtngphgeghfdjbaaGreatDoor
open Go Go.Sl
theorem Be {l:List A4} (h:A6 l) (k:Nat):A6 (l.drop k):=fun d hd=>h d (sG hd)
theorem Gp:∀ (f x:Nat),0<x→x<2 ^ f→1≤Lib.bitLenAux f x∧Lib.bitLenAux f x≤f∧2 ^ (Lib.bitLenAux f x - 1)≤x∧x<2 ^ Lib.bitLenAux f x
 | 0,x,h0,h1=>by simp at h1;omega
 | f+1,x,h0,h1=>by
   unfold Lib.bitLenAux;rw [aE (by omega)];by_cases h2:x / 2=0
   · have hx:x=1:=uJ;subst hx;have:Lib.bitLenAux f (1 / 2)=0:=by cases f <;> simp [Lib.bitLenAux]
     rw [this];simp
   have ih:=Gp f (x / 2) uJ (by rw [dM] at h1;omega);obtain ⟨a1,a2,a3,a4⟩:=ih;refine ⟨by omega,by omega,?_,?_⟩
   · rw [iQ,←tD a1,dM];omega
   rw [tQ 1,dM];omega
theorem LA {x:Int} (h0:0<x) (h1:x<4294967296):∃ s:Nat,s<32∧32 - (Lib.bitLen x.toNat:Int)=(s:Int)∧2147483648≤((2 ^ s:Nat):Int)*x∧((2 ^ s:Nat):Int)*(x+1)≤4294967296:=by
 have hb:=Gp 64 x.toNat uJ (by have:(2:Nat) ^ 64=18446744073709551616:=uR;omega);have hle:=Lib.bitLen_le x.toNat 32 uJ uJ;unfold Lib.bitLen at hle ⊢;generalize Lib.bitLenAux 64 x.toNat=L at *;obtain ⟨b1,b2,b3,b4⟩:=hb;refine ⟨32 - L,by omega,by omega,?_,?_⟩
 · have e:2 ^ (32 - L)*2 ^ (L - 1)=2147483648:=by
    rw [←kX,show 32 - L+(L - 1)=31 by omega]
   have h2:=fD (2 ^ (32 - L)) b3;rw [e] at h2;have h3:((2 ^ (32 - L):Nat):Int)*x=((2 ^ (32 - L)*x.toNat:Nat):Int):=by rw [dS,dZ uJ]
   rw [h3];omega
 have e:2 ^ (32 - L)*2 ^ L=4294967296:=by
  rw [←kX,show 32 - L+L=32 by omega]
 have h2:=fD (2 ^ (32 - L)) (show x.toNat+1≤2 ^ L by omega);rw [e] at h2;have h3:((2 ^ (32 - L):Nat):Int)*(x+1)=((2 ^ (32 - L)*(x.toNat+1):Nat):Int):=by rw [dS,pQ,dZ uJ];rfl
 rw [h3];omega
theorem QE {b v:List A4} {m:Nat} {P:Int} (hP:0<P) (hb:b.length=m+2) (db:A6 b) (dv:A6 v) (tv:E8 v) (hx:2147483648≤P*lg b (m+1)) (hx2:P*(lg b (m+1)+1)≤4294967296) (hv:uM v=P*uM b):v.length=m+2∧2147483648≤lg v (m+1):=by
 have e1:=vM b (m+1);rw [vB (show b.length≤m+1+1 by omega)] at e1;have h1:=wL (db.take (m+1));have h2:=vD (db.take (m+1));rw [bI,dE uJ] at h1;have hp:=xV (m+1);have up:uM v<pb (m+2):=by
  have f1:=Int.mul_lt_mul_of_pos_left (show uM b<pb (m+1)*(lg b (m+1)+1) by rw [bQ,gR];omega) hP;have f2:=bG hx2 (cN hp);rw [hv,show m+2=m+1+1 by omega,yI,cW 4294967296];rw [eE P] at f1;omega
 have low:pb (m+1)*2147483648≤uM v:=by
  have f1:=bG (show pb (m+1)*lg b (m+1)≤uM b by omega) (cN hP);have f2:=bG hx (cN hp);rw [hv];rw [eE P] at f1;omega
 have l1:=Zw dv tv up;have l2:m+2≤v.length:=by
  rcases aK v.length (m+2) with h | h
  · have f1:=wL dv;have f2:=Pc (show v.length≤m+1 by omega);omega
  exact h
 have hl:v.length=m+2:=uJ;refine ⟨hl,?_⟩;have e2:=vM v (m+1);rw [vB (show v.length≤m+1+1 by omega)] at e2;have h3:=wL (dv.take (m+1));rw [bI,dE uJ] at h3;rcases Int.lt_or_le (lg v (m+1)) 2147483648 with h | h
 · have f1:=bG (show lg v (m+1)+1≤2147483648 by omega) (cN hp);rw [bQ,gR] at f1;omega
 exact h
theorem AE {x y:Int} (h:vJ x y<0):x<y:=by
 unfold vJ at h;split at h
 · assumption
 split at h <;> omega
theorem QF (R:List A4) (i n:Nat):R=R.take i++((R.drop i).take n++R.drop (i+n)):=by
 rw [←qJ,dF,dF]
theorem LB {u v:List A4} (du:A6 u) (dv:A6 v) (tv:E8 v) (h0:0<v.length) (hl:v.length≤u.length):uM ((u++[(default:A4)]).drop (u.length+1 - v.length))<uM v:=by
 rw [fB uJ,wC,Ey];have h1:=wL (Be du (u.length+1 - v.length));rw [cE,show u.length - (u.length+1 - v.length)=v.length - 1 by omega] at h1;have h2:=Nk dv tv (fun e=>by rw [e] at h0;simp at h0);show uM (u.drop (u.length+1 - v.length))+pb _*0<_;rw [bV];omega
theorem QG {R v:List A4} {i n:Nat} (dR:A6 R) (dv:A6 v) (hi:i<R.length) (hn:v.length=n) (hl:i+(n+1)≤R.length) (h:uM (R.drop (i+1))<uM v) :
 uM ((R.drop i).take (n+1))<4294967296*uM v∧uM (R.drop (i+(n+1)))=0:=by
 have e1:=yB hi;have e2:=yT (R.drop i) (show n+1≤(R.drop i).length by rw [cE];omega);rw [qJ] at e2;have h1:=wD dR i;have h2:=wL dv;rw [hn] at h2;have h3:=vD (Be dR (i+(n+1)));have h4:=vD ((Be dR i).take (n+1));have h5:=vD (Be dR (i+1));have hp:=xV (n+1);have h6:uM (R.drop (i+(n+1)))=0:=by
  rcases (show uM (R.drop (i+(n+1)))=0∨1≤uM (R.drop (i+(n+1))) by omega) with hz | hz
  · exact hz
  have f1:=bG hz (cN hp);rw [gR] at f1;have f2:=yI n;omega
 refine ⟨?_,h6⟩;rw [h6,bV] at e2;omega
theorem WJ {a b q R P:Int} (hP:0<P) (h:P*a=q*(P*b)+R) (h0:0≤R) (h1:R<P*b):R / P=a % b∧q=a / b∧0<b:=by
 have e:R=P*(a - q*b):=by rw [kD,eE P q];omega
 have e1:R / P=a - q*b:=by rw [e,Int.mul_ediv_cancel_left _ (oO hP)]
 have l0:0≤a - q*b:=by
  rw [e] at h0;exact Int.le_of_mul_le_mul_left (by rw [bV];exact h0) hP
 have l1:a - q*b<b:=by
  rw [e] at h1;exact Int.lt_of_mul_lt_mul_left h1 (cN hP)
 have hb:0<b:=uJ;have:=(sN (a:=a) (b:=b) (r:=a - q*b) (q:=q) hb).2 ⟨by rw [cW b q];omega,l0,l1⟩;exact ⟨e1.trans this.2.symm,this.1.symm,hb⟩
theorem Fe {G:A3} {v:Value} {z:Int} {n:Nat} {lb:List A4} (h:D4 G v z n) (db:A6 lb) (hz:z<uM lb):D4 G v z lb.length:=by
 obtain ⟨b,m,h1,h2,h3,h4,h5,h6⟩:=h;refine ⟨b,m,h1,h2,h3,h4,h5,?_⟩;rcases aK lb.length m.length with h7 | h7
 · have:=Aj db h3 h4 h7;omega
 exact h7
theorem qe (G:A3) (x:Int) (h0:0≤x) (h1:x≤4294967295):Does Tryz.prog 202 [.int .u32 x] G [] (fun v G' Ho=>v=.int .i64 (32 - (Lib.bitLen x.toNat:Int))∧G'=G∧Ho=[]):=
 Pf fun w=>Tryz.bits_LeadingZeros32 x w h0 h1
theorem ik (G:A3) (x:Int) (h0:0<x) (h1:x<4294967296):Does Tryz.prog 202 [.int .u32 x] G [] (fun v G' Ho=>∃ sh:Nat,v=.int .i64 (sh:Int)∧sh<32∧2147483648≤((2 ^ sh:Nat):Int)*x∧((2 ^ sh:Nat):Int)*(x+1)≤4294967296∧G'=G∧Ho=[]):=by
 obtain ⟨sh,h2,h3,h4,h5⟩:=LA h0 h1;exact (qe G x uJ uJ).mono fun v G' Ho _ ⟨e1,e2,e3⟩=>⟨sh,by rw [e1,h3],h2,h4,h5,e2,e3⟩
theorem ZH (G:A3) (a:Option Addr) (ca:Nat) (la:List A4) (s:Nat) (ha:Arr G a la) (da:A6 la) (h1:la.length≤1073741824) (hs:s<32) :
 Does Tryz.prog 110 [.slice a la.length ca,.int .i64 (s:Int)] G [] (fun v G' Ho=>∃ r,v=.tuple #[r,.int .i64 0]∧D4 G' r (((2 ^ s:Nat):Int)*uM la) (la.length+1)∧Ho=[]):=by
 have h:=ij G a ca la 0 s ha da h1 hs uJ;rw [show 32*0+s=s by omega,Is,eO] at h;exact h
section
attribute [local irreducible] uM pb vJ uZ
theorem il (G:A3) (a b:Option Addr) (ca cb:Nat) (la lb:List A4) (ha:Arr G a la) (hb:Arr G b lb) (da:A6 la) (ta:E8 la) (db:A6 lb) (h1:la.length≤536870912) (h2:lb.length≤536870912) (h3:la.length≤ca) (h4:lb.length≤cb) (hB:0<uM lb) :
 Does Tryz.prog 158 [.slice a la.length ca,.slice b lb.length cb] G [] (fun v G' Ho=>∃ q r,v=.tuple #[q,r,.int .i64 0]∧D4 G' q (uM la / uM lb) la.length∧D4 G' r (uM la % uM lb) lb.length∧Ho=[]):=by
 have hA:=vD da;refine D0 Tryz.func158 Tryz.ntmps158 fun w=>?_;refine aL 10 [] ?_;refine cQ 0 U (Iz _ _ _ _ uK uJ vG) fun v1 G1 Ho1 hle1 hp=>?_;obtain ⟨ta1,tm1,rfl,hta1,hte1,htr1,htl1,rfl,rfl⟩:=hp;refine bY 3 [] ?_;have dm:=xA hte1 db;have tp:=Fc hte1 htr1;have hV:=xK hte1 htr1;have hpos:0<tm1.length:=by
  rcases dD tm1.length with h | h
  · have h5:=bS h;rw [h5,vF] at hV;omega
  exact h
 by_cases hlt:uM la<uM tm1
 · have hcmp:vJ (uM la) (uM tm1)=-1:=Ci hlt;refine aL 16 [0] ?_;refine dC U (ZG _ _ _ _ _ _ _ uK uK uK uK uJ uJ uJ uJ) ?_;refine aN 7 [1] ?_;refine cQ 0 U (WI _ _ _ _ uK Sp Sp) fun v2 G2 Ho2 hle2 hp=>?_;obtain ⟨na2,nm2,rfl,hna2,hne2,hnt2,hnl2,rfl⟩:=hp;replace ha:=ha.up hle2;replace hb:=hb.up hle2;replace hta1:=hta1.up hle2;refine bA 7 [] ?_;refine sR ?_;refine ⟨_,_,U,⟨none,[],U,oT _,A6.nil,E8.nil,?_,aS _⟩,Fe (oI hna2 hne2 hnt2 da ?_ (aG _)) db ?_,U⟩
   · rw [vF,lS hA uJ]
   · rw [Int.emod_eq_of_lt hA uJ]
   exact eM _ hB
 have hcmp:¬vJ (uM la) (uM tm1)<0:=fun h=>hlt (AE h);by_cases hone:tm1.length=1
 · have hv1:=PO hone;have hr1:=wD dm 0;have e1:(tm1[(0:Int).toNat]?.getD default).v=lg tm1 0:=rfl;have hb0:0<(tm1[(0:Int).toNat]?.getD default).v∧(tm1[(0:Int).toNat]?.getD default).v<4294967296:=by rw [e1];omega
   refine aL 16 [0] ?_;refine dC U (ZG _ _ _ _ _ _ _ uK uK uK uK uJ uJ uJ uJ) ?_;refine aN 19 [0,1] ?_;refine fF (α:=A4) T.sl87 ?_;refine aU U (cS T.one166 U (gZ uK uJ 0 U U)) ?_;refine cQ 0 U (ii _ _ _ _ _ uK uK uJ uJ uJ) fun v2 G2 Ho2 hle2 hp=>?_;obtain ⟨dq2,dz2,dm2,rfl,⟨dqa2,dqm2,rfl,hdqa2,hdql2,hdqt2,hdqv2,hdqn2⟩,hdv2,hd02,hd12,rfl⟩:=hp;replace ha:=ha.up hle2;replace hb:=hb.up hle2;replace hta1:=hta1.up hle2;refine aN 13 [] ?_;refine eV (α:=A4) 0 [⟨dm2⟩] U T.sl87 T.el166 U U U U U fun b1=>?_;have hdl:A6 [(⟨dm2⟩:A4)]:=A6.one uJ;refine eC 0 U (kW (xs:=[(⟨dm2⟩:A4)]) Oe) fun G9 hle9 hA9=>?_;replace hdqa2:=hdqa2.up hle9;refine cQ 1 U (WI _ _ _ _ uK Sp Sp) fun v3 G3 Ho3 hle3 hp=>?_;obtain ⟨na3,nm3,rfl,hna3,hne3,hnt3,hnl3,rfl⟩:=hp;replace hA9:=hA9.up hle3;replace hdqa2:=hdqa2.up hle3;refine bA 7 [] ?_;refine sR ?_;have hdu:=(sN (a:=uM la) (b:=uM lb) (r:=dm2) (q:=dz2) hB).2 ⟨by rw [cW,←hV,hv1,←e1];omega,hd02,by rw [←hV,hv1,←e1];exact hd12⟩;refine ⟨_,_,U,⟨dqa2,dqm2,U,hdqa2,hdql2,hdqt2,by rw [hdqv2,hdu.1],hdqn2⟩,Fe (oI hna3 hne3 hnt3 hdl (by rw [Ey,hdu.2]) (aG _)) db (eM _ hB),U⟩
 obtain ⟨m,hm⟩:∃ m,tm1.length=m+2:=⟨tm1.length - 2,by omega⟩
 have hx:=wD dm (m+1);have ex:(tm1[((tm1.length:Int) - 1).toNat]?.getD default).v=lg tm1 (m+1):=by unfold lg;rw [show ((tm1.length:Int) - 1).toNat=((m+1:Nat):Int).toNat by omega]
 have hx1:lg tm1 (m+1)≠0:=by
  rcases tp with h | h
  · rw [h] at hm;simp at hm
  unfold lg;rw [aH,show m+1=tm1.length - 1 by omega];exact h
 have hxb:0<(tm1[((tm1.length:Int) - 1).toNat]?.getD default).v∧(tm1[((tm1.length:Int) - 1).toNat]?.getD default).v<4294967296:=by rw [ex];omega
 refine aL 16 [0] ?_;refine dC U (ZG _ _ _ _ _ _ _ uK uK uK uK uJ uJ uJ uJ) ?_;refine aN 23 [0,0] ?_;refine fF (α:=A4) T.sl87 ?_;refine iT 0 T.one166 ?_;refine cQ 0 U (ik _ _ uJ uJ) fun v2 G2 Ho2 hle2 hp=>?_;obtain ⟨sh,rfl,hsh,hs1,hs2,rfl,rfl⟩:=hp;refine aN 7 [] ?_;refine cQ 0 U (ZH _ _ _ _ sh uK uK uJ uJ) fun v3 G3 Ho3 hle3 hp=>?_;obtain ⟨sr3,rfl,⟨sa3,sm3,rfl,hsa3,hsl3,hst3,hsv3,hsn3⟩,rfl⟩:=hp;replace ha:=ha.up hle3;replace hb:=hb.up hle3;replace hta1:=hta1.up hle3;refine aN 11 [] ?_;refine cQ 0 U (ZH _ _ _ _ sh uK uK uJ uJ) fun v4 G4 Ho4 hle4 hp=>?_;obtain ⟨sr4,rfl,⟨sa4,sm4,rfl,hsa4,hsl4,hst4,hsv4,hsn4⟩,rfl⟩:=hp;replace hsa3:=hsa3.up hle4;replace ha:=ha.up hle4;replace hb:=hb.up hle4;replace hta1:=hta1.up hle4;refine aN 10 [] ?_;refine eV (α:=A4) 0 [⟨0⟩] U T.sl87 T.el166 U U U U U fun b1=>?_;have hP:0<((2 ^ sh:Nat):Int):=(yY (s:=sh) uJ).choose_spec.2.2;obtain ⟨hvl,hvt⟩:=QE hP hm dm hsl3 hst3 (by rw [←ex];exact hs1) (by rw [←ex];exact hs2) hsv3;have hge:uM sm3≤uM sm4:=by
  rw [hsv3,hsv4];exact bG uJ (cN hP)
 have huv:sm3.length≤sm4.length:=by
  rcases aK sm4.length sm3.length with h | h
  · have:=Aj hsl4 hsl3 hst3 h;omega
  exact h
 refine Xs (α:=A4) (xs:=sm4) (ys:=[(⟨0⟩:A4)]) 40 U T.sl87 T.el166 U U (mX uK) uJ (fP 0 U) uR (by simp only [bN,cR];omega) (by simp only [bN,cR,maxLen];omega) fun b2 c2 j2 ho2=>?_;have hstart:=LB hsl4 hsl3 hst3 uJ huv;have huA:uM (sm4++[(⟨0⟩:A4)])=uM sm4:=by rw [wC,Ey];show _+_*0=_;omega
 have dU:A6 (sm4++[(⟨0⟩:A4)]):=hsl4.append (A6.one uR);have lU:(sm4++[(⟨0⟩:A4)]).length=sm4.length+1:=by rw [aI];rfl
 change uM ((sm4++[(⟨0⟩:A4)]).drop _)<_ at hstart;generalize sm4++[(⟨0⟩:A4)]=uL at *;refine aN 16 [] ?_;refine jL (α:=A4) 41 U T.sl87 T.el166 U U uJ uJ fun b3=>?_;refine bY 15 [] ?_;obtain ⟨N,hN⟩:∃ N,N=uL.length - sm3.length:=⟨_,U⟩
 have hM:((uL.length:Int) - (sm3.length:Int)).toNat=N:=uJ;rw [hM];have hNs:sm4.length+1 - sm3.length=N:=uJ;rw [hNs] at hstart;have hown:∀ r:List A4,r.length=N→A5 (some ⟨b3,0,none⟩) N r []:=fun r hr=>.inr ⟨b3,U,by rw [hr];rfl,by omega,by simp only [maxLen];omega⟩;have hc2:uL.length≤c2:=ho2.le;have hownU:∀ r:List A4,r.length=uL.length→A5 (some ⟨b2,0,none⟩) c2 r j2:=fun r hr=>by
  rcases ho2 with ⟨h,_⟩ | ⟨b',e,h5,h6,h7⟩
  · cases h
  exact .inr ⟨b',e,by rw [hr];exact h5,by rw [hr];exact h6,h7⟩
 refine iD 16 U (show _=Value.slice (some ⟨b3,0,none⟩) (List.replicate N (default:A4)).length N by rw [aC]) ?_;refine iD 17 U (show _=Value.int .i64 ((N:Int) - 1) by congr 1;omega) ?_;refine kL (ι:=Nat×List A4×List A4) (fun (k,q,R)=>([(17,.int .i64 ((k:Int) - 1)),(16,.slice (some ⟨b3,0,none⟩) q.length N),(13,.slice (some ⟨b2,0,none⟩) R.length c2),(15,.int .i64 (sm3.length:Int)),(11,.slice sa3 (List.length sm3) (List.length sm3)),(10,.int .i64 (↑sh:Int)),(6,.int .i64 0),(5,.slice none 0 0),(4,.slice none 0 0)],[(41,some b3,Row 166 q []),(40,some b2,Row 166 R j2),(0,some b1,Row (α:=Go.Sl.A4) 166 ([Go.Sl.A4.mk 0]) ([]))])) (fun (k,q,R)=>k≤N∧q.length=N∧A6 q∧R.length=uL.length∧A6 R∧uM sm4=uM q*uM sm3+uM R∧uM (R.drop k)<uM sm3∧∀ j,j<k→lg q j=0) (fun (k,q,R)=>k) ((N,List.replicate N (default:A4),uL)) (⟨aG _,aC,nV N,U,dU,by rw [show uM (List.replicate N (default:A4))=0 from Bp N,gM,iM,huA],hstart,fun j _=>Ja N j⟩) fun ⟨k,q,R⟩=>fun hk=>?_;obtain ⟨hk1,hqN,hdq,hRn,hdR,hval,hRlt,hqz⟩:=hk;have hoq:=hown q hqN;have hoR:=hownU R hRn;rcases dD k with rfl | hkp
 · rw [kN] at hRlt;refine aL 17 [0] ?_;refine eC 41 U hoq (fun G8 hle8 hAq=>eC 40 U hoR (fun G9 hle9 hAR=>?_));replace hAq:=hAq.up hle9;refine cQ 42 U (qd _ _ _ _ sh uK uK uJ uJ uJ) fun v5 G5 Ho5 hle5 hp=>?_;obtain ⟨sr5,rfl,⟨sa5,sm5,rfl,hsa5,hsl5,hst5,hsv5,hsn5⟩,rfl⟩:=hp;replace hAR:=hAR.up hle5;replace hAq:=hAq.up hle5;refine aN 10 [] ?_;refine cQ 42 U (Iz _ _ _ _ uK uJ vG) fun v6 G6 Ho6 hle6 hp=>?_;obtain ⟨ta6,tm6,rfl,hta6,hte6,htr6,htl6,rfl,rfl⟩:=hp;refine bA 7 [] ?_;refine sR ?_;have hRn0:=vD hdR;rw [hsv3,hsv4,hV] at hval;rw [hsv3,hV] at hRlt;obtain ⟨hd1,hd2,_⟩:=WJ hP hval hRn0 hRlt;exact ⟨_,_,U,oI hta6 hte6 htr6 hdq hd2 uJ,Fe ⟨sa5,sm5,U,hsa5,hsl5,hst5,by rw [hsv5,hd1],aG _⟩ db (eM _ hB),U⟩
 obtain ⟨i,rfl⟩:∃ i,k=i+1:=⟨k - 1,by omega⟩
 have ei:(((i+1:Nat):Int) - 1).toNat=i:=uJ;refine aL 21 [1] ?_;refine aT (OS T.sl87 U U U uJ uJ uJ) ?_;refine aF 1 [] ?_;have hroom:=QG (n:=m+2) hdR hsl3 (show i<R.length by omega) hvl uJ hRlt;obtain ⟨p,hp⟩:∃ p,p=R.take i:=⟨_,U⟩
 obtain ⟨ww,hw⟩:∃ ww,ww=(R.drop i).take (m+3):=⟨_,U⟩
 obtain ⟨z,hz⟩:∃ z,z=R.drop (i+(m+3)):=⟨_,U⟩
 have hsplit:R=p++(ww++z):=by rw [hp,hw,hz];exact QF R i (m+3)
 have lp:p.length=i:=by rw [hp,bI];omega
 have lw:ww.length=m+3:=by rw [hw,bI,cE];omega
 have dw:A6 ww:=by rw [hw];exact (Be hdR i).take _
 obtain ⟨hr1,hr2⟩:=hroom;rw [show m+2+1=m+3 by omega] at hr1 hr2;rw [←hw] at hr1;rw [←hz] at hr2;refine jB 93 U (show _=Value.slice (some ⟨b2,p.length,none⟩) ww.length (c2 - i) by
  rw [ei,lp,lw];show Value.slice (if c2=i then (some ⟨b2,0,none⟩:Option Addr) else (some ⟨b2,0,none⟩:Option Addr).map (·.add (i*1))) _ _=_;rw [aE (by omega),fR,add_lit,jT,cF];congr 1;omega) ?_
 refine oF 40 (Row 166 (p++(ww++z)) j2) U (by rw [←hsplit]) ?_;refine cQ 40 U (qb _ b2 p ww z j2 _ _ _ sm3 m uK dw hsl3 uJ lw hvl hvt hr1) fun r9 G9 Ho9 hle9 hp9=>?_;obtain ⟨w9,g9,rfl,rfl,rfl,hg1,hg2,hwl,hwd,hwv,hwlt⟩:=hp9;refine kZ (α:=A4) T.sl87 ?_;refine fL (z:=_) 41 T.size166 U U U uK uJ U fun ho1=>?_;refine bA 8 [] ?_;have lz:z.length=R.length - (i+(m+3)):=by rw [hz,cE]
 have dz:A6 z:=by rw [hz];exact Be hdR _
 have dp:A6 p:=by rw [hp];exact hdR.take _
 have hwin:=WE p ww w9 z uJ;rw [←hsplit,lp,hwv,show uM ww - g9*uM sm3 - uM ww=-(g9*uM sm3) by omega] at hwin;have lR:(p++(w9++z)).length=uL.length:=by rw [aI,aI];omega
 refine dH 17 U (show _=Value.int .i64 ((i:Int) - 1) by congr 1;omega) ?_;refine jW 41 (Row 166 (q.set i (⟨g9⟩:A4)) []) U (by rw [ei]) ?_;refine dH 16 U (show _=Value.slice (some ⟨b3,0,none⟩) (q.set i (⟨g9⟩:A4)).length N by rw [aJ]) ?_;refine dH 13 U (show _=Value.slice (some ⟨b2,0,none⟩) (p++(w9++z)).length c2 by rw [lR,hRn]) ?_;refine eH ((i,q.set i (⟨g9⟩:A4),p++(w9++z))) ?_ ?_
 · refine ⟨by omega,by rw [aJ];exact hqN,vK hdq _ ⟨hg1,hg2⟩,lR,dp.append (hwd.append dz),PY (q:=0) uJ (hqz i uJ) hval hwin,?_,fun j hj=>by rw [zU uJ];exact hqz j uJ⟩;rw [fB uJ,cY uJ,gI,wC,hr2,bV,cH];exact hwlt
 show i<i+1;omega
end
end Go.Proofs.YtngphgeghfdjbaaGreatDoor
