/- uK of the proof (part 3): what the rows' text needs of the texts that lead to it. -/
import Derived.Test.YtngphgeghfdjbaaGreatDoorMBb
set_option linter.unusedVariables false
set_option linter.unusedSimpArgs false
set_option linter.unusedSectionVars false
set_option maxHeartbeats 4000000
set_option maxRecDepth 100000
namespace Go.Sl
open Go
def Lims (l:List U32):Prop:=∀ d∈l,0≤d.v∧d.v<4294967296
def sX:List U32→Int
 | []=>0
 | d :: l=>d.v+4294967296*sX l
def pb (n:Nat):Int:=((4294967296 ^ n:Nat):Int)
theorem Jj:pb 0=1:=rfl
theorem wP (n:Nat):pb (n+1)=4294967296*pb n:=by unfold pb;rw [jY,iD,cJ];rfl
theorem xC (n:Nat):0<pb n:=by unfold pb;exact Int.ofNat_lt.2 (oB tF)
theorem Wy (m n:Nat):pb (m+n)=pb m*pb n:=by unfold pb;rw [mR,cJ]
theorem Ov {m n:Nat} (h:m≤n):pb m≤pb n:=by unfold pb;exact oS.2 (eT tF h)
theorem tX:sX []=0:=rfl
theorem uP (d:U32) (l:List U32):sX (d :: l)=d.v+4294967296*sX l:=rfl
theorem Lims.nil:Lims []:=fun d h=>by simp at h
theorem Lims.tail {d:U32} {l:List U32} (h:Lims (d :: l)):Lims l:=fun x hx=>h x (bB _ hx)
theorem Lims.head {d:U32} {l:List U32} (h:Lims (d :: l)):0≤d.v∧d.v<4294967296:=h d bP
theorem Lims.append {l m:List U32} (h:Lims l) (h':Lims m):Lims (l++m):=fun x hx=>by
 rcases fI.1 hx with h1 | h1
 · exact h x h1
 exact h' x h1
theorem Lims.one {d:Int} (h:0≤d∧d<4294967296):Lims [⟨d⟩]:=fun x hx=>by
 have:x=⟨d⟩:=by simpa using hx
 subst this;exact h
theorem Lims.take {l:List U32} (h:Lims l) (n:Nat):Lims (l.take n):=fun x hx=>h x (List.mem_of_mem_take hx)
theorem Lims.at {l:List U32} (h:Lims l) {m:Int} (hm:0≤m∧m<l.length):0≤(l[m.toNat]?.getD default).v∧(l[m.toNat]?.getD default).v<4294967296:=by
 have hl:m.toNat<l.length:=sV
 rw [aB hl];exact h _ (dJ hl)
theorem tT:∀ {l:List U32},Lims l→0≤sX l
 | [],_=>Int.le_refl 0
 | d :: l,h=>by
   have h1:=tT h.tail
   have h2:=h.head
   rw [uP];omega
theorem vS:∀ {l:List U32},Lims l→sX l<pb l.length
 | [],_=>tF
 | d :: l,h=>by
   have h1:=vS h.tail
   have h2:=h.head
   rw [uP,bQ,wP];omega
theorem uN:∀ (l m:List U32),sX (l++m)=sX l+pb l.length*sX m
 | [],m=>by rw [fT,tX,cT,Jj];omega
 | d :: l,m=>by
   rw [sT,uP,uP,uN l m,bQ,wP,bI,←bR];omega
theorem Bn (d:U32):sX [d]=d.v:=by rw [uP,tX];omega
theorem CK (l:List U32) (d:U32):sX (l++[d])=sX l+pb l.length*d.v:=by rw [uN,Bn]
theorem Bo {l:List U32} {k:Nat} (h:k<l.length):sX (l.take (k+1))=sX (l.take k)+pb k*(l[((k:Nat):Int).toNat]?.getD default).v:=by
 rw [dE,aF,aB h]
 simp only [Option.toList_some,hJ]
 rw [CK,bC,dC (Nat.le_of_lt h)]
theorem yY (n:Nat):sX (List.replicate n ⟨0⟩)=0:=by
 induction n with
 | zero=>rfl
 | succ n ih=>rw [oG,uP,ih];rfl
theorem Wz (n:Nat):Lims (List.replicate n ⟨0⟩):=fun x hx=>by
 have:=jN hx
 subst this;exact ⟨by decide,by decide⟩
abbrev nR:=@Wz
theorem CL {l:List U32} {n:Nat} (h:∀ j,n≤j→j<l.length→(l[j]?.getD default).v=0):sX (l.take n)=sX l:=by
 rcases aM n l.length with hn | hn
 · have e:l=l.take n++l.drop n:=(dA n l).symm
   have hz:∀ (m:List U32),(∀ j,j<m.length→(m[j]?.getD default).v=0)→sX m=0:=by
    intro m
    induction m with
    | nil=>intro _;rfl
    | cons d m ih =>
      intro h0
      have h1:=h0 0 tS
      simp only [List.getElem?_cons_zero,hJ] at h1
      rw [uP,h1,ih fun j hj=>by have:=h0 (j+1) (by simpa using hj);simpa using this];rfl
   have h2:sX (l.drop n)=0:=hz _ fun j hj=>by
    rw [eV]
    exact h (n+j) sV (by rw [eC] at hj;omega)
   have h3:sX l=sX (l.take n++l.drop n):=by rw [dA]
   rw [h3,uN,h2];omega
 rw [tH hn]
theorem Jk {l:List U32} (hd:Lims l) (ht:Top l) (h0:l≠[]):pb (l.length - 1)≤sX l:=by
 have hl:0<l.length:=oH.2 h0
 have h1:(l[l.length - 1]?.getD default).v≠0:=by
  rcases ht with h | h
  · exact absurd h h0
  exact h
 have h2:=Bo (l:=l) (k:=l.length - 1) sV
 rw [mF hl,tH (aG _),aF] at h2
 have h3:=tT (hd.take (l.length - 1))
 have h4:(1:Int)≤(l[l.length - 1]?.getD default).v:=by
  have:=hd.at (m:=((l.length - 1:Nat):Int)) sV
  rw [aF] at this
  omega
 have h5:=aY h4 (bM (xC (l.length - 1)))
 omega
theorem Tk {l:List U32} (hd:Lims l) (ht:Top l) {m:Nat} (h:sX l<pb m):l.length≤m:=by
 by_cases h0:l=[]
 · subst h0;exact aU _
 have h1:=Jk hd ht h0
 rcases aM m l.length with h2 | h2
 · have h3:=Ov (show m≤l.length - 1 by omega)
   omega
 exact h2
theorem Lb {l:List U32} (hd:Lims l) (ht:Top l) (h0:l≠[]):0<sX l:=jB (xC _) (Jk hd ht h0)
theorem yC {l m:List U32} (hl:Lims l) (hm:Lims m) (tm:Top m) (h:l.length<m.length):sX l<sX m:=by
 have h1:=vS hl
 have h2:=Jk hm tm (fun e=>by rw [e] at h;simp at h)
 have h3:=Ov (show l.length≤m.length - 1 by omega)
 omega
structure IsBig (neg:Bool) (l:List U32) (z:Int):Prop where
 digs:Lims l
 top:Top l
 sign:l=[]→neg=false
 val:z=if neg=true then -sX l else sX l
theorem IsBig.abs {neg:Bool} {l:List U32} {z:Int} (h:IsBig neg l z):sX l=z.natAbs:=by
 have h1:=tT h.digs
 have h2:=h.val
 split at h2 <;> omega
theorem IsBig.neg_iff {neg:Bool} {l:List U32} {z:Int} (h:IsBig neg l z):neg=decide (z<0):=by
 have h2:=h.val
 by_cases h0:l=[]
 · have h3:=h.sign h0
   subst h0
   rw [h3] at h2 ⊢
   rw [tX] at h2
   have:¬z<0:=by simp at h2;omega
   simp [this]
 have h1:=Lb h.digs h.top h0
 cases neg with
 | true =>
   rw [aR rfl] at h2
   have:z<0:=sV
   simp [this]
 | false =>
   rw [aL (by decide)] at h2
   have:¬z<0:=sV
   simp [this]
theorem IsBig.zero_iff {neg:Bool} {l:List U32} {z:Int} (h:IsBig neg l z):l.length=0↔z=0:=by
 have h2:=h.val
 constructor
 · intro h0
   have h0:=cB h0
   subst h0
   rw [tX] at h2
   split at h2 <;> omega
 intro hz
 by_cases h0:l=[]
 · rw [h0];rfl
 have h1:=Lb h.digs h.top h0
 split at h2 <;> omega
theorem IsBig.len {neg:Bool} {l:List U32} {z:Int} (h:IsBig neg l z) {m:Nat} (hz:(z.natAbs:Int)<pb m):l.length≤m:=by
 refine Tk h.digs h.top ?_
 rw [h.abs];exact hz
def Big (G:Imm) (x:IV) (z:Int):Prop:=∃ l:List U32,l.length=x.n∧x.n≤x.c∧Arr G x.a l∧IsBig x.neg l z
theorem Big.up {G G':Imm} {x:IV} {z:Int} (h:Big G x z) (hl:G.le G'):Big G' x z:=by
 obtain ⟨l,h1,h0,h2,h3⟩:=h
 exact ⟨l,h1,h0,h2.up hl,h3⟩
theorem Big.zero (G:Imm):Big G ⟨false,none,0,0⟩ 0:=⟨[],rfl,aG _,pP G,⟨Lims.nil,Top.nil,fun _=>rfl,rfl⟩⟩
theorem bits_and_u64_nat (a b:Nat) (ha:a<18446744073709551616) (hb:b<18446744073709551616):bits .and .u64 (a:Int) (b:Int)=((a &&& b:Nat):Int):=by
 have hx:a &&& b<2 ^ 64:=Nat.and_lt_two_pow _ sV
 have h1:(BitVec.ofInt 64 (a:Int)).toNat=a:=by
  rw [gP,iA];exact gN sV
 have h2:(BitVec.ofInt 64 (b:Int)).toNat=b:=by
  rw [gP,iA];exact gN sV
 show IntKind.u64.wrap ((BitVec.ofInt 64 (a:Int) &&& BitVec.ofInt 64 (b:Int)).toNat:Int)=_
 rw [BitVec.toNat_and,h1,h2,nT]
 omega
theorem bits_or_u64_nat (a b:Nat) (ha:a<18446744073709551616) (hb:b<18446744073709551616):bits .or .u64 (a:Int) (b:Int)=((a ||| b:Nat):Int):=by
 have hx:a ||| b<2 ^ 64:=Nat.or_lt_two_pow sV sV
 have h1:(BitVec.ofInt 64 (a:Int)).toNat=a:=by
  rw [gP,iA];exact gN sV
 have h2:(BitVec.ofInt 64 (b:Int)).toNat=b:=by
  rw [gP,iA];exact gN sV
 show IntKind.u64.wrap ((BitVec.ofInt 64 (a:Int) ||| BitVec.ofInt 64 (b:Int)).toNat:Int)=_
 rw [BitVec.toNat_or,h1,h2,nT]
 omega
theorem Tl (x:Int) (h:0≤x∧x<18446744073709551616):bits .and .u64 x 1=x % 2:=by
 have h1:=bits_and_u64_nat x.toNat 1 sV sV
 rw [Nat.and_one_is_mod,cP h.1] at h1
 have h2:((x.toNat % 2:Nat):Int)=x % 2:=sV
 exact h1.trans h2
theorem Tm (x:Int) (h:0≤x∧x<18446744073709551616):bits .and .u64 x 4294967295=x % 4294967296:=by
 have h1:=bits_and_u64_nat x.toNat 4294967295 sV sV
 rw [show (4294967295:Nat)=2 ^ 32 - 1 by decide,Nat.and_two_pow_sub_one_eq_mod,cP h.1] at h1
 have h2:((x.toNat % 2 ^ 32:Nat):Int)=x % 4294967296:=sV
 exact h1.trans h2
theorem Xa (x y:Int) (hx:0≤x∧x<4294967296) (hy:0≤y∧y<4294967296):bits .or .u64 (x*4294967296) y=x*4294967296+y:=by
 have h1:=bits_or_u64_nat (2 ^ 32*x.toNat) y.toNat sV sV
 rw [←kQ (b:=y.toNat) (i:=32) sV x.toNat] at h1
 have e1:((2 ^ 32*x.toNat:Nat):Int)=x*4294967296:=sV
 have e2:((2 ^ 32*x.toNat+y.toNat:Nat):Int)=x*4294967296+y:=sV
 rw [e1,e2,cP hy.1] at h1
 exact h1
theorem Tn (x y:Int) (hx:0≤x∧x<4294967296) (hy:0≤y∧y<4294967296):bits .or .u64 y (x*4294967296)=x*4294967296+y:=by
 have h1:=bits_or_u64_nat y.toNat (2 ^ 32*x.toNat) sV sV
 rw [Nat.or_comm,←kQ (b:=y.toNat) (i:=32) sV x.toNat] at h1
 have e1:((2 ^ 32*x.toNat:Nat):Int)=x*4294967296:=sV
 have e2:((2 ^ 32*x.toNat+y.toNat:Nat):Int)=x*4294967296+y:=sV
 rw [e1,e2,cP hy.1] at h1
 exact h1
theorem Iq (x y:Int) (s:Nat) (hx:0≤x∧x<((2 ^ s:Nat):Int)) (hy:0≤y∧y<4294967296) (hs:s≤32) (hm:y % ((2 ^ s:Nat):Int)=0):bits .or .u32 x y=x+y:=by
 have hp:2 ^ s≤2 ^ 32:=eT tF hs
 have h1:=At x.toNat y.toNat sV sV
 have hm':y.toNat % 2 ^ s=0:=by
  have h2:((y.toNat % 2 ^ s:Nat):Int)=0:=by rw [Int.natCast_emod,cP hy.1];exact hm
  exact Int.ofNat_eq_zero.1 h2
 have h3:=gU y.toNat (2 ^ s)
 rw [hm',gT] at h3
 have h4:=kQ (b:=x.toNat) (i:=s) sV (y.toNat / 2 ^ s)
 rw [h3] at h4
 rw [Nat.or_comm,←h4,cP hx.1,cP hy.1] at h1
 rw [h1]
 omega
section
variable {P:Program} {e:Env} {H:Hp} {G:Imm} {ty:TypeId} {t t':TypeId} {x y:Operand} {m n:Int} {k:IntKind}
theorem GI (hx:e.ev x=some (.int .u64 m)) (hy:e.ev y=some (.int k 32)) (h0:0≤m):Qy P (.binOp .shr t x y t') ty e H G (.int .u64 (m / 4294967296)):=by
 have h:=oF (P:=P) (H:=H) (G:=G) (ty:=ty) (t:=t) (t':=t') hx hy tF
 have e1:m.fdiv (2 ^ (Min.min (32:Int).toNat IntKind.u64.bits))=m / 4294967296:=by
  rw [show Min.min (32:Int).toNat IntKind.u64.bits=32 by decide]
  exact oZ _ tF
 rw [e1] at h;exact h
abbrev fA:=@GI
theorem GJ (hx:e.ev x=some (.int .u64 m)) (hy:e.ev y=some (.int k 32)) (h0:0≤m∧m<4294967296):Qy P (.binOp .shl t x y t') ty e H G (.int .u64 (m*4294967296)):=by
 have h:=Qy.shl (P:=P) (H:=H) (G:=G) (ty:=ty) (t:=t) (t':=t') hx hy tF
 have e1:IntKind.u64.wrap (m*2 ^ (Min.min (32:Int).toNat IntKind.u64.bits))=m*4294967296:=by
  rw [show Min.min (32:Int).toNat IntKind.u64.bits=32 by decide]
  exact jA _ sV
 rw [e1] at h;exact h
abbrev rY:=@GJ
theorem Xb {s:TypeId} (hs:(P.underlying s).isSome=true) (ht:P.underlying t=some (.int .u32)) (hx:e.ev x=some (.int .u64 m)):Qy P (.convert s t x) ty e H G (.int .u32 (m % 4294967296)):=by
 have h:=kP (P:=P) (H:=H) (G:=G) (ty:=ty) hs ht hx
 rw [pV] at h
 exact h
abbrev gR:=@Xb
theorem MR (hx:e.ev x=some (.int .u64 m)) (hy:e.ev y=some (.int .u64 1)) (h0:0≤m∧m<18446744073709551616):Qy P (.binOp .and t x y t') ty e H G (.int .u64 (m % 2)):=by
 have h:=lY (P:=P) (H:=H) (G:=G) (ty:=ty) (t:=t) (t':=t') hx hy
 rw [Tl m h0] at h;exact h
abbrev oN:=@MR
theorem CM (hx:e.ev x=some (.int .u64 m)) (hy:e.ev y=some (.int .u64 4294967295)) (h0:0≤m∧m<18446744073709551616):Qy P (.binOp .and t x y t') ty e H G (.int .u64 (m % 4294967296)):=by
 have h:=lY (P:=P) (H:=H) (G:=G) (ty:=ty) (t:=t) (t':=t') hx hy
 rw [Tm m h0] at h;exact h
abbrev pT:=@CM
theorem Es (hx:e.ev x=some (.int .u64 (m*4294967296))) (hy:e.ev y=some (.int .u64 n)) (h0:0≤m∧m<4294967296) (h1:0≤n∧n<4294967296):Qy P (.binOp .or t x y t') ty e H G (.int .u64 (m*4294967296+n)):=by
 have h:=Gq (P:=P) (H:=H) (G:=G) (ty:=ty) (t:=t) (t':=t') hx hy
 rw [Xa m n h0 h1] at h;exact h
theorem CN (hx:e.ev x=some (.int .u64 n)) (hy:e.ev y=some (.int .u64 (m*4294967296))) (h0:0≤m∧m<4294967296) (h1:0≤n∧n<4294967296):Qy P (.binOp .or t x y t') ty e H G (.int .u64 (m*4294967296+n)):=by
 have h:=Gq (P:=P) (H:=H) (G:=G) (ty:=ty) (t:=t) (t':=t') hx hy
 rw [Tn m n h0 h1] at h;exact h
theorem MS {s:Nat} (hx:e.ev x=some (.int .u64 m)) (hy:e.ev y=some (.int k (s:Int))) (h0:0≤m∧m<4294967296) (hs:s≤32):Qy P (.binOp .shl t x y t') ty e H G (.int .u64 (m*((2 ^ s:Nat):Int))):=by
 have h:=Qy.shl (P:=P) (H:=H) (G:=G) (ty:=ty) (t:=t) (t':=t') hx hy sV
 have e1:IntKind.u64.wrap (m*2 ^ (Min.min (s:Int).toNat IntKind.u64.bits))=m*((2 ^ s:Nat):Int):=by
  rw [aF,dC (aO hs tF)]
  have e2:(2:Int) ^ s=((2 ^ s:Nat):Int):=by rw [qI];rfl
  rw [e2]
  have hp:(1:Int)≤((2 ^ s:Nat):Int)∧((2 ^ s:Nat):Int)≤4294967296:=by
   have h1:0<2 ^ s:=oB tF
   have h2:2 ^ s≤2 ^ 32:=eT tF hs
   omega
  have h3:=aY hp.2 h0.1
  have h4:=jT h0.1 (show (0:Int)≤((2 ^ s:Nat):Int) by omega)
  exact jA _ sV
 rw [e1] at h;exact h
theorem Zb {s:Nat} (hx:e.ev x=some (.int .u64 m)) (hy:e.ev y=some (.int k (s:Int))) (h0:0≤m) (hs:s≤32):Qy P (.binOp .shr t x y t') ty e H G (.int .u64 (m / ((2 ^ s:Nat):Int))):=by
 have h:=oF (P:=P) (H:=H) (G:=G) (ty:=ty) (t:=t) (t':=t') hx hy sV
 have e1:m.fdiv (2 ^ (Min.min (s:Int).toNat IntKind.u64.bits))=m / ((2 ^ s:Nat):Int):=by
  rw [aF,dC (aO hs tF)]
  have e2:(2:Int) ^ s=((2 ^ s:Nat):Int):=by rw [qI];rfl
  rw [e2]
  exact oZ _ (kB _)
 rw [e1] at h;exact h
end
theorem Rd (P s:Int):P*(s % 4294967296)+4294967296*P*(s / 4294967296)=P*s:=by
 have h:=gG s 4294967296
 have e:4294967296*P*(s / 4294967296)=P*(4294967296*(s / 4294967296)):=by rw [cN 4294967296 P,bR]
 rw [e,←bI,h]
def lg (l:List U32) (i:Nat):Int:=(l[((i:Nat):Int).toNat]?.getD default).v
theorem zN {l:List U32} (h:Lims l) {i:Nat} (hi:i<l.length):0≤lg l i∧lg l i<4294967296:=h.at sV
theorem Bp {l:List U32} {i:Nat} (hi:l.length≤i):lg l i=0:=by
 unfold lg;rw [aF,cQ hi];rfl
theorem vG {l:List U32} (h:Lims l) (i:Nat):0≤lg l i∧lg l i<4294967296:=by
 rcases aM i l.length with h1 | h1
 · exact zN h h1
 rw [Bp h1];decide
theorem Dk {l:List U32} {i:Nat} (h:i<l.length) (d:Int):lg (l.set i ⟨d⟩) i=d:=by
 unfold lg
 rw [aF,aB (by rw [aH];exact h),List.getElem_set_self];rfl
theorem xO {l:List U32} {i j:Nat} (h:i≠j) (d:U32):lg (l.set i d) j=lg l j:=by
 unfold lg
 rw [aF,List.getElem?_set_ne h]
theorem uB (l:List U32) (i:Nat):sX (l.take (i+1))=sX (l.take i)+pb i*lg l i:=by
 rcases aM i l.length with h | h
 · exact Bo h
 rw [tH h,tH sV,Bp h,cI,dG]
theorem wD {l:List U32} {i:Nat} (h:i<l.length):sX (l.drop i)=lg l i+4294967296*sX (l.drop (i+1)):=by
 rw [gY h,uP]
 unfold lg
 rw [aF,aB h];rfl
theorem yZ (l:List U32) {m:Nat} (h:m≤l.length):sX l=sX (l.take m)+pb m*sX (l.drop m):=by
 have h1:sX l=sX (l.take m++l.drop m):=by rw [dA]
 rw [h1,uN,bC,dC h]
theorem zW:∀ (l:List U32) (k:Nat) (d:U32),k<l.length→sX (l.set k d)=sX l+pb k*(d.v - lg l k)
 | [],k,d,h=>by simp at h
 | x :: l,0,d,_=>by
   rw [rN,uP,uP,Jj]
   show _=_+1*(d.v - x.v)
   omega
 | x :: l,k+1,d,h=>by
   have ih:=zW l k d (by simpa using h)
   have e:lg (x :: l) (k+1)=lg l k:=by unfold lg;rw [aF,aF,gO]
   rw [rO,uP,uP,ih,wP,e,bI,←bR]
   omega
theorem tU {l:List U32} (h:Lims l) (k:Nat) {s:Int} (hs:0≤s∧s<4294967296):Lims (l.set k ⟨s⟩):=fun d hd=>by
 rcases gX hd with h1 | h1
 · exact h d h1
 subst h1;exact hs
theorem Db (s:Int):0≤s % 4294967296∧s % 4294967296<4294967296:=⟨iM _ tF,eF _ tF⟩
def Trim (l:List U32) (n:Nat):Prop:=n≤l.length∧(∀ j,n≤j→j<l.length→(l[j]?.getD default).v=0)∧(n=0∨(l[n - 1]?.getD default).v≠0)
theorem Trim.val {l:List U32} {n:Nat} (h:Trim l n):sX (l.take n)=sX l:=CL h.2.1
theorem Trim.top {l:List U32} {n:Nat} (h:Trim l n):Top (l.take n):=by
 obtain ⟨h1,h2,h3⟩:=h
 rcases h3 with h3 | h3
 · subst h3;exact .inl rfl
 by_cases h0:n=0
 · subst h0;exact .inl rfl
 refine .inr ?_
 rw [bC,dC h1,iY,aR (by omega)]
 exact h3
theorem Lc {α:Type} [Cells α] {G:Imm} {a:Option Addr} {c sz:Nat} {l:List α} (h:Arr G a l) (n:Nat):Arr G (subA a c 0 sz) (l.take n):=by
 refine ⟨tI _,?_⟩
 rcases h.2 with h0 | ⟨b,o,rfl,hr⟩
 · left;rw [bC];omega
 refine .inr ⟨b,o,?_,fun i v hi=>hr i v ?_⟩
 · unfold subA
   split
   · rfl
   simp [Addr.add]
 have e:tM l=tM (l.take n)++tM (l.drop n):=by rw [←vP,dA]
 rw [e,bH (aS.1 hi).1];exact hi
theorem Et {la lb r:List U32} {i:Nat} {cy s:Int} (hi:i<r.length) (hv:sX (la.take i)+sX (lb.take i)=sX (r.take i)+pb i*cy) (hs:s=cy+lg la i+lg lb i) :
 sX (la.take (i+1))+sX (lb.take (i+1))=sX ((r.set i ⟨s % 4294967296⟩).take (i+1))+pb (i+1)*(s / 4294967296):=by
 rw [uB,uB,uB (r.set i _),Dk hi,jP (aG i),wP]
 have h:=Rd (pb i) s
 rw [hs,bI,bI] at h
 rw [←hs] at h
 omega
theorem Eu {la lb r:List U32} {i:Nat} {cy cy' s:Int} (hi:i<r.length) (hv:sX (la.take i) - sX (lb.take i)=sX (r.take i) - pb i*cy) (hs:s=lg la i - lg lb i - cy+4294967296*cy') :
 sX (la.take (i+1)) - sX (lb.take (i+1))=sX ((r.set i ⟨s⟩).take (i+1)) - pb (i+1)*cy':=by
 rw [uB,uB,uB (r.set i _),Dk hi,jP (aG i),wP]
 have h:pb i*s=pb i*lg la i - pb i*lg lb i - pb i*cy+4294967296*pb i*cy':=by
  rw [hs,bI,iU,iU,←bR,cN (pb i) 4294967296]
 omega
theorem MT {la lb r:List U32} {n:Nat} {cy:Int} (hn:n=la.length) (hb:lb.length≤la.length) (hle:sX lb≤sX la) (hri:r.length=n) (hd:Lims r) (hc:0≤cy∧cy≤1) (hv:sX (la.take n) - sX (lb.take n)=sX (r.take n) - pb n*cy):sX r=sX la - sX lb:=by
 rw [tH sV,tH sV,tH sV] at hv
 have h:=vS hd
 rw [hri] at h
 have hcy:cy=0:=by
  rcases (show cy=0∨cy=1 by omega) with h1 | h1
  · exact h1
  rw [h1,fR] at hv;omega
 rw [hcy,cI] at hv
 omega
theorem CO {r lb:List U32} {i j:Nat} {c s x A:Int} (hk:i+j<r.length) (hv:sX r+pb (i+j)*c=A+pb i*(x*sX (lb.take j))) (hs:s=c+(x*lg lb j+lg r (i+j))) :
 sX (r.set (i+j) ⟨s % 4294967296⟩)+pb (i+(j+1))*(s / 4294967296)=A+pb i*(x*sX (lb.take (j+1))):=by
 rw [zW r (i+j) ⟨s % 4294967296⟩ hk,uB,←kI,wP]
 have h1:=Rd (pb (i+j)) s
 have h2:pb (i+j)*s=pb (i+j)*c+(pb (i+j)*(x*lg lb j)+pb (i+j)*lg r (i+j)):=by rw [hs,bI,bI]
 have h3:pb i*(x*(sX (lb.take j)+pb j*lg lb j))=pb i*(x*sX (lb.take j))+pb (i+j)*(x*lg lb j):=by
  rw [bI,bI,Wy]
  congr 1
  rw [bR,←bR x,cN x (pb j),bR]
 have h4:pb (i+j)*(s % 4294967296 - lg r (i+j))=pb (i+j)*(s % 4294967296) - pb (i+j)*lg r (i+j):=iU _ _ _
 show sX r+pb (i+j)*(s % 4294967296 - lg r (i+j))+4294967296*pb (i+j)*(s / 4294967296)=_
 rw [h3,h4]
 omega
theorem GK {la lb r:List U32} {i:Nat} {c:Int} (hk:i+lb.length<r.length) (hz:lg r (i+lb.length)=0) (hv:sX r+pb (i+lb.length)*c=sX (la.take i)*sX lb+pb i*(lg la i*sX (lb.take lb.length))) :
 sX (r.set (i+lb.length) ⟨c⟩)=sX (la.take (i+1))*sX lb:=by
 rw [zW r _ _ hk,hz,tH (aG _)] at *
 show sX r+pb (i+lb.length)*(c - 0)=_
 rw [nB,hv,uB,jL,bR]
theorem Ak {x y:Int} (hx:0≤x∧x<4294967296) (hy:0≤y∧y<4294967296):0≤x*y∧x*y≤18446744065119617025:=by
 refine ⟨jT hx.1 hy.1,?_⟩
 have h1:x*y≤4294967295*y:=cY sV hy.1
 omega
theorem To {la q:List U32} {i:Nat} {r B:Int} (hi:i<la.length) (hq:i<q.length) (hv:sX (la.drop (i+1))=sX (q.drop (i+1))*B+r) :
 sX (la.drop i)=sX ((q.set i ⟨(r*4294967296+lg la i) / B⟩).drop i)*B+(r*4294967296+lg la i) % B:=by
 rw [wD hi,wD (l:=q.set i _) (by rw [aH];exact hq),Dk hq,oI sV,hv]
 have h:=gG (r*4294967296+lg la i) B
 rw [jL,cN ((r*4294967296+lg la i) / B) B,bR 4294967296,bI]
 omega
theorem CQ {r a B:Int} (hr:0≤r∧r<B) (ha:0≤a∧a<4294967296):0≤(r*4294967296+a) / B∧(r*4294967296+a) / B<4294967296:=by
 refine ⟨mA sV sV,kM sV ?_⟩
 have h1:=cY (show r+1≤B by omega) (show (0:Int)≤4294967296 by decide)
 rw [cN 4294967296 B]
 omega
theorem GL {lb:List U32} (h:lb.length=1):sX lb=lg lb 0:=by
 match lb,h with
 | [d],_=>rw [Bn];rfl
theorem GM {x y:U32} (h:x.v=y.v):x=y:=by cases x;cases y;simp only at h;rw [h]
theorem Ld {la lb:List U32} {k:Nat} (hn:la.length=lb.length) (h:∀ j,k≤j→j<la.length→lg la j=lg lb j):la.drop k=lb.drop k:=by
 refine fL fun i=>?_
 rw [eV,eV]
 rcases aM (k+i) la.length with h1 | h1
 · have h2:=h (k+i) sV h1
   unfold lg at h2
   rw [aF] at h2
   rw [aB h1,aB sV] at h2 ⊢
   exact congrArg some (GM h2)
 rw [cQ h1,cQ sV]
theorem Tp {la lb:List U32} {k:Nat} (hn:la.length=lb.length) (hk:k<la.length) (da:Lims la) (db:Lims lb) (h:∀ j,k+1≤j→j<la.length→lg la j=lg lb j) (hlt:lg la k<lg lb k):sX la<sX lb:=by
 have e:=Ld hn h
 have h1:=yZ la (show k+1≤la.length by omega)
 have h2:=yZ lb (show k+1≤lb.length by omega)
 rw [e] at h1
 rw [uB] at h1 h2
 have h3:=vS (da.take k)
 rw [bC,dC sV] at h3
 have h4:=tT (db.take k)
 have h5:=aY (show lg la k+1≤lg lb k by omega) (bM (xC k))
 rw [bI,fR] at h5
 omega
theorem GN {p Ul U3 Vl V2 g:Int} (hp:0<p) (hUl:Ul<p) (hVl:0≤Vl) (hg:0≤g) (h:U3<g*V2):Ul+p*U3<g*(Vl+p*V2):=by
 have h1:=aY (show U3+1≤g*V2 by omega) (bM hp)
 have h2:=jT hg hVl
 rw [bI,fR] at h1
 rw [bI,dS g p]
 omega
theorem MU {p Ul U3 Vl V2 g:Int} (hp:0<p) (hUl:0≤Ul) (hVl:0≤Vl∧Vl<p) (hg:0≤g∧g<4294967296) (hV2:4294967296≤V2) (h:g*V2≤U3):(g - 1)*(Vl+p*V2)≤Ul+p*U3:=by
 have h1:=aY h (bM hp)
 have h2:=aY (bM hVl.2) hg.1
 have h3:=cY (bM hg.2) (bM hp)
 have h4:=aY hV2 (bM hp)
 rw [pK,fH,bI,dS g p]
 rw [cN p 4294967296] at h4
 omega
theorem GO {g v1 v2 high rest u2:Int} (h:g*v1+rest=high):g*(v2+4294967296*v1) - (u2+4294967296*high)=g*v2 - (rest*4294967296+u2):=by
 rw [bI,dS g 4294967296,←h]
 omega
theorem GP {g v1 high rest:Int} (h:g*v1+rest=high) (hr:4294967296≤rest) (hv:0<v1) (hh:high<v1*4294967296+4294967296):g<4294967296:=by
 rcases Int.lt_or_le g 4294967296 with h1 | h1
 · exact h1
 have h2:=cY h1 (bM hv)
 omega
section
variable {u v:List U32} {m:Nat}
theorem MV (hu:u.length=m+3):sX u=sX (u.take m)+pb m*(lg u m+4294967296*(lg u (m+2)*4294967296+lg u (m+1))):=by
 have h0:=yZ u (show m≤u.length by omega)
 rw [wD (l:=u) (i:=m) sV,wD (l:=u) (i:=m+1) sV,wD (l:=u) (i:=m+1+1) sV,eI (show u.length≤m+1+1+1 by omega),tX] at h0
 rw [h0]
 congr 2
 show lg u m+4294967296*(lg u (m+1)+4294967296*(lg u (m+2)+4294967296*0))=_
 omega
theorem GQ (hv:v.length=m+2):sX v=sX (v.take m)+pb m*(lg v m+4294967296*lg v (m+1)):=by
 have h0:=yZ v (show m≤v.length by omega)
 rw [wD (l:=v) (i:=m) sV,wD (l:=v) (i:=m+1) sV,eI (show v.length≤m+1+1 by omega),tX] at h0
 rw [h0]
 congr 2
 omega
theorem xD {l:List U32} (d:Lims l) (h:m≤l.length):0≤sX (l.take m)∧sX (l.take m)<pb m:=by
 have h1:=vS (d.take m)
 rw [bC,dC h] at h1
 exact ⟨tT (d.take m),h1⟩
variable (hu:u.length=m+3) (hv:v.length=m+2) (du:Lims u) (dv:Lims v)
include hu hv du dv
theorem GR {g rest high:Int} (hh:high=lg u (m+2)*4294967296+lg u (m+1)) (h1:0<lg v (m+1)) (hg:g=high / lg v (m+1)) (hr:rest=high % lg v (m+1)) :
 g*lg v (m+1)+rest=high∧0≤g∧0≤rest∧rest<lg v (m+1)∧sX u<(g+1)*sX v:=by
 have a1:=vG du (m+2)
 have a2:=vG du (m+1)
 have a3:=vG du m
 have a4:=vG dv m
 have hn:0≤high:=sV
 have e1:=gG high (lg v (m+1))
 have e2:=eF high h1
 have e3:=iM high (show lg v (m+1)≠0 by omega)
 have e4:=mA hn (bM h1)
 rw [←hg,←hr] at e1
 rw [←hr] at e2 e3
 rw [←hg] at e4
 rw [cN] at e1
 refine ⟨by omega,e4,e3,e2,?_⟩
 rw [MV hu,GQ hv,←hh]
 refine GN (xC m) (xD du sV).2 (xD dv sV).1 sV ?_
 have e5:(g+1)*lg v (m+1)=g*lg v (m+1)+lg v (m+1):=by rw [jL,fH]
 have e6:=jT (show 0≤g+1 by omega) a4.1
 rw [bI,dS (g+1) 4294967296,e5]
 omega
theorem QE {g rest high:Int} (hh:high=lg u (m+2)*4294967296+lg u (m+1)) (h:g*lg v (m+1)+rest=high) (hg:0≤g) (hc:rest*4294967296+lg u m<g*lg v m):sX u<g*sX v:=by
 have e:=GO (v2:=lg v m) (u2:=lg u m) h
 rw [MV hu,GQ hv,←hh]
 exact GN (xC m) (xD du sV).2 (xD dv sV).1 hg sV
theorem GS {g rest high:Int} (hh:high=lg u (m+2)*4294967296+lg u (m+1)) (h:g*lg v (m+1)+rest=high) (hg:0≤g∧g<4294967296) (h1:1≤lg v (m+1)) (hc:g*lg v m≤rest*4294967296+lg u m):(g - 1)*sX v≤sX u:=by
 have e:=GO (v2:=lg v m) (u2:=lg u m) h
 have a4:=vG dv m
 rw [MV hu,GQ hv,←hh]
 exact MU (xC m) (xD du sV).1 (xD dv sV) hg sV sV
end
theorem yO {u v w:List U32} {i:Nat} {t c c' b b' s:Int} (hi:i<w.length) (hv:sX (u.take i) - t*sX (v.take i)=sX (w.take i) - pb i*(b+c)) (hc:c'=c+lg v i*t)
 (hs:s=lg u i - c' % 4294967296 - b+4294967296*b') :
 sX (u.take (i+1)) - t*sX (v.take (i+1))=sX ((w.set i ⟨s⟩).take (i+1)) - pb (i+1)*(b'+c' / 4294967296):=by
 rw [uB,uB,uB (w.set i _),Dk hi,jP (aG i),wP]
 have h1:=Rd (pb i) c'
 have h2:pb i*c'=pb i*c+t*(pb i*lg v i):=by rw [hc,bI,cN (lg v i) t,dS t]
 have h3:pb i*s=pb i*lg u i - pb i*(c' % 4294967296) - pb i*b+4294967296*pb i*b':=by
  rw [hs,bI,iU,iU,←bR,cN (pb i) 4294967296]
 rw [bI] at hv
 rw [bI t,bI (4294967296*pb i)]
 omega
theorem Xc {c x t:Int} (hc:0≤c∧c<4294967296) (hx:0≤x∧x<4294967296) (ht:0≤t∧t<4294967296):0≤c+x*t∧c+x*t<18446744073709551616∧0≤(c+x*t) / 4294967296∧(c+x*t) / 4294967296<4294967296∧0≤x*t∧x*t≤18446744065119617025:=by
 have h:=Ak hx ht
 omega
theorem GU {u v w z:List U32} {n:Nat} {g c:Int} (hu:sX w=sX u - g*sX v+pb n) (hlow:(g - 1)*sX v≤sX u) (hup:sX u<g*sX v) (hw:w.length=n) (hz:z.length=n) (hvn:sX v<pb n) (hvl:v.length≤n) (dz:Lims z) (hc:0≤c∧c≤1)
 (hs:sX (w.take n)+sX (v.take n)=sX (z.take n)+pb n*c):sX z=sX u - (g - 1)*sX v:=by
 rw [tH sV,tH sV,tH sV] at hs
 have h1:=tT dz
 have h2:=vS dz
 rw [hz] at h2
 have e:(g - 1)*sX v=g*sX v - sX v:=by rw [pK,fH]
 have hc1:c=1:=by
  rcases (show c=0∨c=1 by omega) with h | h
  · rw [h,cI] at hs;omega
  exact h
 rw [hc1,fR] at hs
 omega
theorem MW (p w w' q:List U32) (h:w'.length=w.length):sX (p++(w'++q))=sX (p++(w++q))+pb p.length*(sX w' - sX w):=by
 rw [uN,uN,uN,uN,h,bI,bI,iU]
 omega
theorem GV {A V q g:Int} {R R':Int} {l:List U32} {k:Nat} (hk:k<l.length) (hz:lg l k=0) (hA:A=sX l*V+R) (hR:R'=R+pb k*(-(g*V))):A=sX (l.set k ⟨g⟩)*V+R':=by
 rw [zW l k _ hk,hz,hA,hR,nB,jL,bR,Int.mul_neg]
 show _=sX l*V+pb k*(g*V)+(R + -(pb k*(g*V)))
 omega
section
variable {P:Program} {ops:Array Oper} {rest:List Oper} {B:Bs} {e:Env} {D:List Deferred} {H:Hp} {G:Imm} {K:Act→World→Prop}
 {ty:TypeId} {pos:String} {after:Array Edge} {d:Nat}
theorem MX {p w q:List U32} {m:Int} (hm:0≤m∧m<w.length):(p++(w++q))[((p.length:Int)+m).toNat]?.getD default=w[m.toNat]?.getD default:=by
 have h1:((p.length:Int)+m).toNat=p.length+m.toNat:=sV
 rw [h1,cM sV,jR,bH sV]
theorem MY {p w q:List U32} {m:Int} (hm:0≤m∧m<w.length) (z:U32):(p++(w++q)).set ((p.length:Int)+m).toNat z=p++(w.set m.toNat z++q):=by
 have h1:((p.length:Int)+m).toNat=p.length+m.toNat:=sV
 rw [h1,List.set_append_right _ _ sV,jR,List.set_append_left _ _ sV]
theorem Zc {k:Nat} {m:Int} (hm:0≤m):k+m.toNat*1=0+((k:Int)+m).toNat*Cells.sz U32+0:=by
 show k+m.toNat*1=0+((k:Int)+m).toNat*1+0
 omega
theorem GW {T:TypeId} {x:Operand} {b:Nat} {E:TypeId} {p w q:List U32} {junk:List Value} {m:Int} (t:Nat) (h1:vK P T=true) (hx:e.ev x=some (.pointer (some ⟨b,p.length+m.toNat*1,none⟩)))
 (ht:H.get t=some (some b,tK E (p++(w++q)) junk)) (hm:0≤m∧m<w.length):Qy P (.load T x) ty e H G (.int .u32 (w[m.toNat]?.getD default).v):=by
 rw [Zc hm.1] at hx
 refine Ta (m:=(p.length:Int)+m) t 0 h1 hx ht ⟨by omega,by rw [aI,aI];omega⟩ rfl ?_
 rw [MX hm];rfl
abbrev lA:=@GW
theorem MZ {T:TypeId} {x y:Operand} {b:Nat} {E:TypeId} {p w q:List U32} {junk:List Value} {m n:Int} (t:Nat) (hs:(P.info? T).map (·.size)=some 1)
 (hx:e.ev x=some (.pointer (some ⟨b,p.length+m.toNat*1,none⟩))) (hy:e.ev y=some (.int .u32 n)) (ht:H.get t=some (some b,tK E (p++(w++q)) junk)) (hm:0≤m∧m<w.length)
 (h:Wl P ops rest B ⟨e,D,(t,some b,tK E (p++(w.set m.toNat ⟨n⟩++q)) junk) :: H,G⟩ K):Wl P ops (⟨none,.store T x y,ty,pos,after,none⟩ :: rest) B ⟨e,D,H,G⟩ K:=by
 rw [Zc hm.1] at hx
 refine Yu (m:=(p.length:Int)+m) (z:=(⟨n⟩:U32)) t hs hx hy rfl ht ⟨by omega,by rw [aI,aI];omega⟩ ?_
 rw [MY hm];exact h
abbrev pZ:=@MZ
theorem GX {T:TypeId} {x hi mx:Operand} {a:Option Addr} {n c E sz:Nat} {k k':IntKind} {m m':Int} (hT:tJ P T E sz) (hx:e.ev x=some (.slice a n c)) (hh:e.ev hi=some (.int k m)) (hh':e.ev mx=some (.int k' m')) (h0:0≤m) (h1:m≤m') (h2:m'≤c) :
 Qy P (.slice T x none (some hi) (some mx)) ty e H G (.slice (subA a m'.toNat 0 sz) m.toNat m'.toNat):=fun ac w _ _ _ _ hk=>by
 have hr:=run_sizeOf (P:=P) w hT.2
 have hu:P.underlying T=some (.slice (P.elem T)):=by simp [Program.elem,hT.1]
 have he:P.elem T=E:=by simp [Program.elem,hT.1]
 have:=run_slice_hm (P:=P) (w:=w) T a n c hu k k' m m' h0 h1 h2
 simp only [execOp,hk.eval hx,eY,kE,hk.eval hh,hk.eval hh',bG,pF (P:=P) (w:=w) T _ _ _ _ hu,this,he,hr,aP,bL,sliced,subA,oP]
end
section
variable {P:Program} {ops:Array Oper} {rest:List Oper} {B:Bs} {e:Env} {D:List Deferred} {H:Hp} {G:Imm} {K:Act→World→Prop}
 {ty:TypeId} {pos:String} {after:Array Edge} {d:Nat} {α:Type} [Cells α]
theorem Tq {w:World} (hw:HoldH H G w) {T T2 E:Nat} (hT:tJ P T E (Cells.sz α)) {t b:Nat} {ad:Option Addr} {c c2:Nat} {xs ys:List α} {junk:List Value}
 (ht:H.get t=some (some b,tK E xs junk)) (hsrc:Src H G ad ys) (hle:ys.length≤xs.length) :
 ∃ w',(Builtin.copy_ #[T,T2] ty #[.slice (some ⟨b,0,none⟩) xs.length c,.slice ad ys.length c2]).run P w=.ok (.int .i64 (ys.length:Int)) w'∧Upd (·=b) w w'∧w'.heap[b]?=some (tK E (ys++xs.drop ys.length) junk):=by
 have hb:=hw.own t b _ ht
 have hmin:Nat.min ys.length xs.length=ys.length:=dC hle
 cases hq:P.info? E with
 | none=>have:=hT.2;simp [hq] at this
 | some i =>
   have hi:i.size=Cells.sz α:=by have:=hT.2;simpa [hq] using this
   rcases hsrc w hw with ⟨rfl,rfl⟩ | ⟨src,rfl,hsr⟩
   · refine ⟨w,?_,kU _ _,by simpa using hb⟩
     have hm0:Nat.min (0:Nat) xs.length=0:=Nat.zero_min _
     simp [Builtin.copy_,aV hT.1,Builtin.lenOf,Builtin.firstCells,sizeOf,typeInfo,hq,storeCells,hm0,goInt]
   have hl:=mC (P:=P) w src (tM ys) hsr
   have hfy:(tM ys).length=ys.length*Cells.sz α:=tI ys
   have hfx:(tM xs).length=xs.length*Cells.sz α:=tI xs
   have hmul:=gM (Cells.sz α) hle
   have hfit:0+0+(tM ys).length≤((tM xs++junk).toArray).size:=by
    rw [pH,aI];omega
   have hst:=mT P b 0 E (tM ys) 0 (tM xs++junk).toArray w hb hfit (fun v hv=>fC.1 (Kj ys) v hv)
   refine ⟨_,?_,vE w b (((tM xs++junk).toArray.toList.take (0+0)++tM ys++(tM xs++junk).toArray.toList.drop (0+0+(tM ys).length)).toArray),?_⟩
   · rw [hfy] at hl
     simp [Builtin.copy_,aV hT.1,Builtin.lenOf,Builtin.firstCells,sizeOf,typeInfo,hq,hi,hmin,hl,hst,goInt]
   rw [mK w b _ _ E _ hb]
   have hsplit:tM xs=tM (xs.take ys.length)++tM (xs.drop ys.length):=by rw [←vP,dA]
   have htl:(tM (xs.take ys.length)).length=(tM ys).length:=by rw [tI,tI,bC,dC hle]
   unfold tK
   rw [vP]
   simp only [gT,cH,bN,fT]
   rw [hsplit,dQ,←htl,List.drop_left,dQ]
theorem Le {x y:Operand} {T T2 E b:Nat} {ad:Option Addr} {c c2:Nat} {xs ys:List α} {junk:List Value} (t:Nat) (hn:Nat.ble (d+1) B.n=true) (hT:tJ P T E (Cells.sz α))
 (hx:e.ev x=some (.slice (some ⟨b,0,none⟩) xs.length c)) (hy:e.ev y=some (.slice ad ys.length c2)) (ht:H.get t=some (some b,tK E xs junk)) (hsrc:Src H G ad ys) (hle:ys.length≤xs.length)
 (h:Wl P ops rest B ⟨(d,.int .i64 (ys.length:Int)) :: e,D,(t,some b,tK E (ys++xs.drop ys.length) junk) :: H,G⟩ K) :
 Wl P ops (⟨some d,.call { callee:=.builtin .copy,args:=#[x,y],argTypes:=#[T,T2] },ty,pos,after,none⟩ :: rest) B ⟨e,D,H,G⟩ K:=by
 refine sK (v:=.int .i64 (ys.length:Int)) (x:=.value (.int .i64 (ys.length:Int))) ht (.inr ⟨rfl,d,rfl,hn⟩) (fun a w hh=>?_) h
 obtain ⟨w',hrun,hu,hb⟩:=Tq (c:=c) (c2:=c2) (T2:=T2) (ty:=ty) hh.mem hT ht hsrc hle
 refine ⟨w',?_,hu,hb⟩
 simp only [execOp,resolve,invoke,builtin,bG,bL,aP,lO,bY,jH,hh.eval hx,hh.eval hy,hrun]
end
theorem GY {P:Program} {e:Env} {H:Hp} {G:Imm} {ty t t':TypeId} {x y:Operand} {m n:Int} (hx:e.ev x=some (.int .u64 m)) (hy:e.ev y=some (.int .u64 n)) (h0:m<n∧0≤m∧n≤18446744073709551615):Qy P (.binOp .sub t x y t') ty e H G (.int .u64 (m - n+18446744073709551616)):=by
 have h:=Eg (P:=P) (H:=H) (G:=G) (ty:=ty) (t:=t) (t':=t') hx hy
 have e1:IntKind.u64.wrap (m - n)=m - n+18446744073709551616:=by rw [nT];omega
 rw [e1] at h;exact h
abbrev qM:=@GY
theorem Lf {P:Program} {f:FuncId} {args:List Value} {G:Imm} {u:Value} (h:∀ w,Calls P f args.toArray w fun e w'=>e=.returned u∧w'=w):Does P f args G [] (fun v G' Ho=>v=u∧G'=G∧Ho=[]):=
 fun w hw=>(h w).mono fun e w' he=>by
  obtain ⟨rfl,rfl⟩:=he
  exact ⟨u,G,[],rfl,hw,cA G,kU _ _,fun b h1 h2=>absurd h2 h1,fun t b o ht=>by simp [Hp.get] at ht,rfl,rfl,rfl⟩
end Go.Sl
namespace Go.Proofs.YtngphgeghfdjbaaGreatDoor
open Go Go.Sl
def tQ (x y:Int):Int:=if x<y then -1 else if y<x then 1 else 0
theorem xX {x y:Int} (h:x<y):tQ x y=-1:=aR h
theorem yL {x y:Int} (h:y<x):tQ x y=1:=by unfold tQ;rw [aL (by omega),aR h]
theorem Cj {x y:Int} (h:x=y):tQ x y=0:=by unfold tQ;rw [aL (by omega),aL (by omega)]
theorem Al {x y u v:Int} (h1:x<y↔u<v) (h2:y<x↔v<u):tQ x y=tQ u v:=by unfold tQ;simp only [h1,h2]
theorem wE {l m:List U32} (he:m=l.take m.length) (ht:Trim l m.length):sX m=sX l:=by rw [he];exact ht.val
theorem Bq {l m:List U32} (he:m=l.take m.length) (ht:Trim l m.length):Top m:=by rw [he];exact ht.top
theorem vX {l m:List U32} (he:m=l.take m.length) (hd:Lims l):Lims m:=by rw [he];exact hd.take _
section
attribute [local irreducible] sX pb tQ
theorem Jb (G:Imm) (a:Option Addr) (c:Nat) (l:List U32) (hl:Arr G a l) (hb:l.length≤1099511627776) (hc:l.length≤c) :
 Does Tryz.prog 150 [.slice a l.length c] G [] (fun v G' Ho=>∃ (b:Option Addr) (m:List U32),v=.slice b m.length m.length∧Arr G b m∧m=l.take m.length∧Trim l m.length∧m.length≤l.length∧G'=G∧Ho=[]):=by
 refine D0 Tryz.func150 Tryz.ntmps150 fun w=>?_
 refine cF 14 [] ?_
 refine gC (ι:=Nat) (fun n=>([(3,.int .i64 (n:Int)),(2,.slice none 0 0),(0,.slice a (List.length l) c)],[])) (fun n=>n≤l.length∧(∀ j,n≤j→j<l.length→(l[j]?.getD default).v=0)) (fun n=>n) (l.length) (⟨aG _,fun j h1 h2=>absurd h2 sV⟩) fun n=>fun hk=>?_
 obtain ⟨hn,hz⟩:=hk
 have done:(n=0∨(l[n - 1]?.getD default).v≠0)→∃ (b:Option Addr) (m:List U32),Value.slice (subA a n 0 1) n n=.slice b m.length m.length∧Arr G b m∧m=l.take m.length∧Trim l m.length∧m.length≤l.length∧G=G∧([]:Hp)=[]:=fun ht=>by
  have e:(l.take n).length=n:=by rw [bC,dC hn]
  refine ⟨subA a n 0 1,l.take n,by rw [e],Lc hl n,by rw [e],?_,by rw [e];exact hn,rfl,rfl⟩
  rw [e];exact ⟨hn,hz,ht⟩
 refine aK 6 [] ?_
 apply cW 7 8 15 rfl
 intro hg1
 refine aA 7 [] ?_
 refine dP (α:=U32) T.sl87 ?_
 refine aA 1 [] ?_
 refine fQ 0 T.one166 ?_
 refine aA 3 [] ?_
 exact cU 7 0
 intro hg1
 refine aA 7 [] ?_
 exact cU 7 0
 refine bJ 2 [] ?_
 refine dN (fun hc1=>?_) fun hc1=>?_
 refine bE 9 [] ?_
 rotate_left
 refine aK 10 [] ?_
 refine aN (GX T.sl87 rfl rfl rfl sV sV sV) ?_
 refine aW 4 [] ?_
 refine bO ?_
 rotate_left
 · refine cZ 3 rfl (show _=Value.int .i64 ((n - 1:Nat):Int) by congr 1;omega) ?_
   refine cS (n - 1) ?_ ?_
   · refine ⟨by omega,fun j h1 h2=>?_⟩
     rcases aM j n with h3 | h3
     · have e:j=((n:Int) - 1).toNat:=sV
       rw [e];exact hc1.2
     exact hz j h3 h2
   omega
 refine done ?_
 rcases eU n with h | h
 · exact .inl h
 refine .inr fun h2=>hc1 ⟨by omega,?_⟩
 have e:((n:Int) - 1).toNat=n - 1:=sV
 rw [e];exact h2
theorem PC (G:Imm) (a b:Option Addr) (ca cb:Nat) (la lb:List U32) (ha:Arr G a la) (hb:Arr G b lb) (da:Lims la) (db:Lims lb) (h1:la.length≤1073741824) (h2:lb.length≤1073741824) (h3:la.length≤ca) (h4:lb.length≤cb) :
 Does Tryz.prog 98 [.slice a la.length ca,.slice b lb.length cb] G [] (fun v G' Ho=>v=.int .i64 (tQ (sX la) (sX lb))∧G'=G∧Ho=[]):=by
 refine D0 Tryz.func98 Tryz.ntmps98 fun w=>?_
 refine aK 8 [] ?_
 refine bV 0 rfl (Jb _ _ _ _ sW sV uU) fun v1 G1 Ho1 hle1 hp=>?_
 obtain ⟨ta1,tm1,rfl,hta1,hte1,htr1,htl1,rfl,rfl⟩:=hp
 refine aA 1 [] ?_
 refine bV 0 rfl (Jb _ _ _ _ sW sV uU) fun v2 G2 Ho2 hle2 hp=>?_
 obtain ⟨ta2,tm2,rfl,hta2,hte2,htr2,htl2,rfl,rfl⟩:=hp
 refine bJ 16 [] ?_
 refine dN (fun hc1=>?_) fun hc1=>?_
 refine bE 8 [] ?_
 refine bO ?_
 rotate_left
 refine cF 10 [] ?_
 refine dN (fun hc2=>?_) fun hc2=>?_
 refine bE 8 [] ?_
 refine bO ?_
 rotate_left
 refine cF 13 [] ?_
 rotate_left
 · rw [←wE hte1 htr1,←wE hte2 htr2]
   exact ⟨by rw [xX (yC (vX hte1 da) (vX hte2 db) (Bq hte2 htr2) sV)],rfl,rfl⟩
 · rw [←wE hte1 htr1,←wE hte2 htr2]
   exact ⟨by rw [yL (yC (vX hte2 db) (vX hte1 da) (Bq hte1 htr1) sV)],rfl,rfl⟩
 rw [←wE hte1 htr1,←wE hte2 htr2]
 have dma:=vX hte1 da
 have dmb:=vX hte2 db
 have l1:=htr1.1
 have l2:=htr2.1
 have hn:tm1.length=tm2.length:=sV
 refine gC (ι:=Nat) (fun k=>([(5,.int .i64 ((k:Int) - 1)),(1,.slice ta2 (List.length tm2) (List.length tm2)),(0,.slice ta1 (List.length tm1) (List.length tm1))],[])) (fun k=>k≤tm1.length∧∀ j,k≤j→j<tm1.length→lg tm1 j=lg tm2 j) (fun k=>k) (tm1.length) (⟨aG _,fun j h1 h2=>absurd h2 sV⟩) fun k=>fun hk=>?_
 obtain ⟨hk1,hz⟩:=hk
 rcases eU k with rfl | hpos
 · refine bE 19 [0] ?_
   refine bO ?_
   have e:tm1=tm2:=by
    have:=Ld (k:=0) hn hz
    simpa using this
   exact ⟨by rw [e,Cj rfl],rfl,rfl⟩
 have e1:(tm1[((k:Int) - 1).toNat]?.getD default).v=lg tm1 (k - 1):=by
  unfold lg;rw [show (((k:Nat):Int) - 1).toNat=((k - 1:Nat):Int).toNat by omega]
 have e2:(tm2[((k:Int) - 1).toNat]?.getD default).v=lg tm2 (k - 1):=by
  unfold lg;rw [show (((k:Nat):Int) - 1).toNat=((k - 1:Nat):Int).toNat by omega]
 have hz':∀ j,(k - 1)+1≤j→j<tm1.length→lg tm1 j=lg tm2 j:=fun j h1 h2=>hz j sV h2
 refine cF 14 [1] ?_
 refine eB [] [] T.mixed [[0],[1]] ?_
 refine jC (α:=U32) 2 T.sl87 ?_
 refine pA 3 [] 0 T.one166 ?_
 refine eJ [[4],[5]] ?_
 refine jC (α:=U32) 6 T.sl87 ?_
 refine pA 7 [] 0 T.one166 ?_
 refine eJ [[8],[9]] ?_
 refine dV ?_
 refine cE ?_
 refine dN (fun hc3=>?_) fun hc3=>?_
 refine bE 12 [] ?_
 refine bO ?_
 rotate_left
 refine dT ?_
 refine eB [] [] T.mixed [[0],[1]] ?_
 refine jC (α:=U32) 2 T.sl87 ?_
 refine pA 3 [] 0 T.one166 ?_
 refine eJ [[4],[5]] ?_
 refine jC (α:=U32) 6 T.sl87 ?_
 refine pA 7 [] 0 T.one166 ?_
 refine eJ [[8],[9]] ?_
 refine dV ?_
 refine cE ?_
 refine dN (fun hc4=>?_) fun hc4=>?_
 refine bE 12 [] ?_
 refine bO ?_
 rotate_left
 refine bE 9 [] ?_
 rotate_left
 · exact ⟨by rw [xX (Tp hn sV dma dmb hz' sV)],rfl,rfl⟩
 · exact ⟨by rw [yL (Tp hn.symm sV dmb dma (fun j h1 h2=>(hz' j h1 sV).symm) sV)],rfl,rfl⟩
 refine cZ 5 rfl (show _=Value.int .i64 (((k - 1:Nat):Int) - 1) by congr 1;omega) ?_
 refine cS (k - 1) ?_ ?_
 · refine ⟨by omega,fun j h1 h2=>?_⟩
   rcases aM j k with h3 | h3
   · have e:j=k - 1:=sV
     rw [e];omega
   exact hz j h3 h2
 omega
theorem QF (G:Imm) (a:Option Addr) (c:Nat) (l:List U32) (hl:Arr G a l) (hb:l.length≤1073741824) (hc:l.length≤c) :
 Does Tryz.prog 151 [.slice a l.length c] G [] (fun v G' Ho=>∃ (b:Option Addr) (m:List U32),v=.slice b m.length m.length∧Arr G' b m∧m=l.take m.length∧Trim l m.length∧m.length≤l.length∧Ho=[]):=by
 refine D0 Tryz.func151 Tryz.ntmps151 fun w=>?_
 refine aK 8 [] ?_
 refine bV 0 rfl (Jb _ _ _ _ sW sV uU) fun v1 G1 Ho1 hle1 hp=>?_
 obtain ⟨ta1,tm1,rfl,hta1,hte1,htr1,htl1,rfl,rfl⟩:=hp
 refine aJ 7 [] ?_
 refine iC (α:=U32) 0 rfl T.sl87 T.el166 rfl rfl sV sV fun b1=>?_
 refine aJ 7 [] ?_
 refine Le (α:=U32) 0 rfl T.sl87 rfl rfl rfl (qB sW) (by first | omega | (simp only [aI,bQ,cT,aE];omega)) ?_
 refine aW 9 [] ?_
 have e1:(List.replicate ((tm1.length:Nat):Int).toNat (default:U32)).length=tm1.length:=by rw [aE,aF]
 refine iB 0 (tK 166 tm1 []) rfl (by rw [eI (by rw [e1];exact aG _),fU]) ?_
 refine cZ 2 rfl (show _=Value.slice (some ⟨b1,0,none⟩) tm1.length tm1.length by rw [e1]) ?_
 refine eE 0 rfl (iI (xs:=tm1) (by simp only [maxLen];omega)) fun G9 hle9 hA=>?_
 refine bO ?_
 exact ⟨_,tm1,rfl,hA,hte1,htr1,htl1,rfl⟩
end
def Nat32 (G:Imm) (v:Value) (z:Int) (n:Nat):Prop:=∃ (b:Option Addr) (m:List U32),v=.slice b m.length m.length∧Arr G b m∧Lims m∧Top m∧sX m=z∧m.length≤n
theorem Nat32.of {G:Imm} {b:Option Addr} {l m:List U32} {z:Int} {n:Nat} (h:Arr G b m) (he:m=l.take m.length) (ht:Trim l m.length) (hd:Lims l) (hz:sX l=z) (hn:m.length≤n):Nat32 G (.slice b m.length m.length) z n:=
 ⟨b,m,rfl,h,vX he hd,Bq he ht,(wE he ht).trans hz,hn⟩
abbrev oA:=@Nat32.of
section
attribute [local irreducible] sX pb tQ
theorem c97 (G:Imm) (a b:Option Addr) (ca cb:Nat) (la lb:List U32) (ha:Arr G a la) (hb:Arr G b lb) (da:Lims la) (db:Lims lb) (h1:la.length≤1073741824) (h2:lb.length≤1073741824) :
 Does Tryz.prog 97 [.slice a la.length ca,.slice b lb.length cb] G [] (fun v G' Ho=>Nat32 G' v (sX la+sX lb) (max la.length lb.length+1)∧Ho=[]):=by
 refine D0 Tryz.func97 Tryz.ntmps97 fun w=>?_
 refine cF 5 [] ?_
 refine rB (ι:=Option Addr×Nat×List U32×(Option Addr×Nat×List U32)) (fun (xa,ka,l1,(xb,kb,l2))=>([(0,.slice xa l1.length ka),(1,.slice xb l2.length kb),(4,.slice none 0 0)],[])) (fun (xa,ka,l1,(xb,kb,l2))=>Arr G xa l1∧Arr G xb l2∧Lims l1∧Lims l2∧l2.length≤l1.length∧l1.length≤max la.length lb.length∧sX l1+sX l2=sX la+sX lb) ?_ fun ⟨xa,ka,l1,(xb,kb,l2)⟩=>fun (hk:Arr G xa l1∧Arr G xb l2∧Lims l1∧Lims l2∧l2.length≤l1.length∧l1.length≤max la.length lb.length∧sX l1+sX l2=sX la+sX lb)=>?_
 · by_cases hlt:la.length<lb.length
   · refine bE 16 [1] ?_
     refine sJ ((b,cb,lb,(a,ca,la))) ?_
     exact ⟨hb,ha,db,da,by omega,by omega,Int.add_comm _ _⟩
   refine bE 11 [0] ?_
   refine sJ ((a,ca,la,(b,cb,lb))) ?_
   exact ⟨ha,hb,da,db,by omega,by omega,rfl⟩
 obtain ⟨ha1,hb1,d1,d2,hl21,hl1,hsum⟩:=hk
 clear ha hb
 refine aK 5 [] ?_
 refine iC (α:=U32) 0 rfl T.sl87 T.el166 rfl rfl sV sV fun b1=>?_
 refine bJ 17 [] ?_
 obtain ⟨N,hN⟩:∃ N,N=l1.length+1:=⟨_,rfl⟩
 have hM:((l1.length:Int)+1).toNat=N:=sV
 rw [hM]
 have hown:∀ r:List U32,r.length=N→OwnA (some ⟨b1,0,none⟩) N r []:=fun r hr=>.inr ⟨b1,rfl,by rw [hr];rfl,by omega,by simp only [maxLen];omega⟩
 refine jE 5 rfl (show _=Value.slice (some ⟨b1,0,none⟩) (List.replicate N (default:U32)).length N by rw [aE]) ?_
 refine gC (ι:=Nat×Int×List U32) (fun (i,cy,r)=>([(22,.int .i64 (i:Int)),(6,.int .u64 cy),(5,.slice (some ⟨b1,0,none⟩) r.length N),(21,.int .i64 (l1.length:Int)),(20,.slice xa (List.length l1) ka),(0,.slice xa (List.length l1) ka),(1,.slice xb (List.length l2) kb),(4,.slice none 0 0)],[(0,some b1,tK 166 r [])])) (fun (i,cy,r)=>i≤l1.length∧r.length=N∧Lims r∧0≤cy∧cy≤1∧sX (l1.take i)+sX (l2.take i)=sX (r.take i)+pb i*cy) (fun (i,cy,r)=>l1.length - i) ((0,0,List.replicate N (default:U32))) (⟨aU _,aE,nR N,by decide,by decide,by rw [bN,bN,bN,cI,dG,tX];rfl⟩) fun ⟨i,cy,r⟩=>fun hk=>?_
 obtain ⟨hi,hrN,hdr,hc0,hc1,hv⟩:=hk
 have hor:=hown r hrN
 rcases aM i l1.length with hia | hia
 · have r1:0≤(l1[(i:Int).toNat]?.getD default).v∧(l1[(i:Int).toNat]?.getD default).v<4294967296:=zN d1 hia
   rcases aM i l2.length with hib | hib
   · have r2:0≤(l2[(i:Int).toNat]?.getD default).v∧(l2[(i:Int).toNat]?.getD default).v<4294967296:=zN d2 hib
     refine aK 14 [1] ?_
     refine dP (α:=U32) T.sl87 ?_
     refine fQ 0 T.one166 ?_
     refine aJ 8 [] ?_
     refine aN (cD rfl T.u165 rfl sV) ?_
     refine aN (gF rfl rfl sV) ?_
     refine aJ 17 [1] ?_
     refine dP (α:=U32) T.sl87 ?_
     refine fQ 0 T.one166 ?_
     refine aN (cD rfl T.u165 rfl sV) ?_
     refine aN (gF rfl rfl sV) ?_
     refine aJ 8 [] ?_
     refine aN (gR rfl T.u166 rfl) ?_
     refine fW (α:=U32) T.sl87 ?_
     refine eX (z:=_) 0 T.size166 rfl rfl rfl sW sV rfl fun ho1=>?_
     refine aJ 4 [] ?_
     refine aN (fA rfl rfl sV) ?_
     refine aW 8 [] ?_
     refine iB 0 (tK 166 (r.set i (⟨(cy+(l1[(i:Int).toNat]?.getD default).v+(l2[(i:Int).toNat]?.getD default).v) % 4294967296⟩:U32)) []) rfl Oi ?_
     refine cZ 5 rfl (show _=Value.slice (some ⟨b1,0,none⟩) (r.set i (⟨(cy+(l1[(i:Int).toNat]?.getD default).v+(l2[(i:Int).toNat]?.getD default).v) % 4294967296⟩:U32)).length N by rw [aH]) ?_
     refine cS ((i+1,(cy+(l1[(i:Int).toNat]?.getD default).v+(l2[(i:Int).toNat]?.getD default).v) / 4294967296,r.set i (⟨(cy+(l1[(i:Int).toNat]?.getD default).v+(l2[(i:Int).toNat]?.getD default).v) % 4294967296⟩:U32))) ?_ ?_
     · exact ⟨by omega,by rw [aH];exact hrN,tU hdr _ (Db _),by omega,by omega,Et sV hv rfl⟩
     show l1.length - (i+1)<l1.length - i
     omega
   have z:=Bp hib
   refine aK 14 [1] ?_
   refine dP (α:=U32) T.sl87 ?_
   refine fQ 0 T.one166 ?_
   refine aJ 8 [] ?_
   refine aN (cD rfl T.u165 rfl sV) ?_
   refine aN (gF rfl rfl sV) ?_
   refine aJ 20 [0] ?_
   refine aN (gR rfl T.u166 rfl) ?_
   refine fW (α:=U32) T.sl87 ?_
   refine eX (z:=_) 0 T.size166 rfl rfl rfl sW sV rfl fun ho1=>?_
   refine aJ 4 [] ?_
   refine aN (fA rfl rfl sV) ?_
   refine aW 8 [] ?_
   refine iB 0 (tK 166 (r.set i (⟨(cy+(l1[(i:Int).toNat]?.getD default).v) % 4294967296⟩:U32)) []) rfl Oi ?_
   refine cZ 5 rfl (show _=Value.slice (some ⟨b1,0,none⟩) (r.set i (⟨(cy+(l1[(i:Int).toNat]?.getD default).v) % 4294967296⟩:U32)).length N by rw [aH]) ?_
   refine cS ((i+1,(cy+(l1[(i:Int).toNat]?.getD default).v) / 4294967296,r.set i (⟨(cy+(l1[(i:Int).toNat]?.getD default).v) % 4294967296⟩:U32))) ?_ ?_
   · exact ⟨by omega,by rw [aH];exact hrN,tU hdr _ (Db _),by omega,by omega,Et sV hv (by rw [z,dG];rfl)⟩
   show l1.length - (i+1)<l1.length - i
   omega
 have hii:i=l1.length:=sV
 subst hii
 refine aK 18 [0] ?_
 refine aN (gL rfl T.u166 rfl sV) ?_
 refine fW (α:=U32) T.sl87 ?_
 refine eX (z:=_) 0 T.size166 rfl rfl rfl sW sV rfl fun ho1=>?_
 refine aJ 5 [] ?_
 have hd2:=tU hdr l1.length (s:=cy) sV
 have hlen:(r.set l1.length (⟨cy⟩:U32)).length=N:=by rw [aH];exact hrN
 have hval:sX (r.set l1.length (⟨cy⟩:U32))=sX la+sX lb:=by
  rw [tH (aG _),tH hl21] at hv
  rw [←hsum,hv]
  have h3:=uB (r.set l1.length (⟨cy⟩:U32)) l1.length
  rw [tH sV,jP (aG _),Dk sV] at h3
  exact h3
 refine oV 0 (tK 166 (r.set l1.length (⟨cy⟩:U32)) []) rfl Oi ?_
 refine kD 56 rfl (show _=Value.slice (some ⟨b1,0,none⟩) (r.set l1.length (⟨cy⟩:U32)).length N by rw [aH]) ?_
 refine cR 0 rfl (hown _ hlen) fun G9 hle9 hA=>?_
 refine bV 1 rfl (Jb _ _ _ _ sW sV uU) fun v1 G1 Ho1 hle1 hp=>?_
 obtain ⟨ta1,tm1,rfl,hta1,hte1,htr1,htl1,rfl,rfl⟩:=hp
 refine aW 4 [] ?_
 refine bO ?_
 exact ⟨oA hta1 hte1 htr1 hd2 hval sV,rfl⟩
end
section
attribute [local irreducible] sX pb tQ
theorem c99 (G:Imm) (a b:Option Addr) (ca cb:Nat) (la lb:List U32) (ha:Arr G a la) (hb:Arr G b lb) (da:Lims la) (db:Lims lb) (h1:la.length≤1073741824) (h2:lb.length≤la.length) (h3:la.length≤ca) (h4:lb.length≤cb) (hle:sX lb≤sX la) :
 Does Tryz.prog 99 [.slice a la.length ca,.slice b lb.length cb] G [] (fun v G' Ho=>∃ r,v=.tuple #[r,.int .i64 0]∧Nat32 G' r (sX la - sX lb) la.length∧Ho=[]):=by
 have hcmp:0≤tQ (sX la) (sX lb):=by
  rcases rP hle with h | h
  · rw [yL h];decide
  rw [Cj h.symm];decide
 refine D0 Tryz.func99 Tryz.ntmps99 fun w=>?_
 refine aK 11 [] ?_
 refine bW rfl (PC _ _ _ _ _ _ _ sW sW sW sW sV sV sV sV) ?_
 refine aJ 10 [0] ?_
 refine iC (α:=U32) 0 rfl T.sl87 T.el166 rfl rfl sV sV fun b1=>?_
 refine bJ 17 [] ?_
 obtain ⟨N,hN⟩:∃ N,N=la.length:=⟨_,rfl⟩
 have hM:(la.length:Int).toNat=N:=sV
 rw [hM]
 have hown:∀ r:List U32,r.length=N→OwnA (some ⟨b1,0,none⟩) N r []:=fun r hr=>.inr ⟨b1,rfl,by rw [hr];rfl,by omega,by simp only [maxLen];omega⟩
 refine jE 6 rfl (show _=Value.slice (some ⟨b1,0,none⟩) (List.replicate N (default:U32)).length N by rw [aE]) ?_
 refine gC (ι:=Nat×Int×List U32) (fun (i,cy,r)=>([(21,.int .i64 (i:Int)),(7,.int .u64 cy),(6,.slice (some ⟨b1,0,none⟩) r.length N),(20,.int .i64 (la.length:Int)),(19,.slice a (List.length la) ca),(5,.int .i64 0),(4,.slice none 0 0),(1,.slice b (List.length lb) cb)],[(0,some b1,tK 166 r [])])) (fun (i,cy,r)=>i≤la.length∧r.length=N∧Lims r∧0≤cy∧cy≤1∧sX (la.take i) - sX (lb.take i)=sX (r.take i) - pb i*cy) (fun (i,cy,r)=>la.length - i) ((0,0,List.replicate N (default:U32))) (⟨aU _,aE,nR N,by decide,by decide,by rw [bN,bN,bN,cI,nB,tX];rfl⟩) fun ⟨i,cy,r⟩=>fun hk=>?_
 obtain ⟨hi,hrN,hdr,hc0,hc1,hv⟩:=hk
 have hor:=hown r hrN
 rcases aM i la.length with hia | hia
 · have r1:0≤(la[(i:Int).toNat]?.getD default).v∧(la[(i:Int).toNat]?.getD default).v<4294967296:=zN da hia
   have e1:(la[(i:Int).toNat]?.getD default).v=lg la i:=rfl
   rcases aM i lb.length with hib | hib
   · have r2:0≤(lb[(i:Int).toNat]?.getD default).v∧(lb[(i:Int).toNat]?.getD default).v<4294967296:=zN db hib
     have e2:(lb[(i:Int).toNat]?.getD default).v=lg lb i:=rfl
     by_cases hlt:(la[((i:Nat):Int).toNat]?.getD default).v<cy+(lb[((i:Nat):Int).toNat]?.getD default).v
     · refine aK 14 [1] ?_
       refine dP (α:=U32) T.sl87 ?_
       refine fQ 0 T.one166 ?_
       refine aJ 24 [1] ?_
       refine dP (α:=U32) T.sl87 ?_
       refine fQ 0 T.one166 ?_
       refine aN (cD rfl T.u165 rfl sV) ?_
       refine aN (gF rfl rfl sV) ?_
       refine aJ 6 [] ?_
       refine aN (cD rfl T.u165 rfl sV) ?_
       refine aA 1 [] ?_
       refine aN (qM rfl rfl sV) ?_
       refine aJ 8 [] ?_
       refine aN (gR rfl T.u166 rfl) ?_
       refine fW (α:=U32) T.sl87 ?_
       refine eX (z:=_) 0 T.size166 rfl rfl rfl sW sV rfl fun ho1=>?_
       refine aJ 4 [] ?_
       refine aN (fA rfl rfl sV) ?_
       refine aN (oN rfl rfl sV) ?_
       refine aW 8 [] ?_
       have es:((la[(i:Int).toNat]?.getD default).v - (cy+(lb[(i:Int).toNat]?.getD default).v)+18446744073709551616) % 4294967296=((la[(i:Int).toNat]?.getD default).v - (cy+(lb[(i:Int).toNat]?.getD default).v)+4294967296):=sV
       have ec:((la[(i:Int).toNat]?.getD default).v - (cy+(lb[(i:Int).toNat]?.getD default).v)+18446744073709551616) / 4294967296 % 2=1:=sV
       refine cZ 7 rfl (show _=Value.int .u64 1 by rw [ec]) ?_
       refine iB 0 (tK 166 (r.set i (⟨((la[(i:Int).toNat]?.getD default).v - (cy+(lb[(i:Int).toNat]?.getD default).v)+4294967296)⟩:U32)) []) rfl Yr ?_
       refine cZ 6 rfl (show _=Value.slice (some ⟨b1,0,none⟩) (r.set i (⟨((la[(i:Int).toNat]?.getD default).v - (cy+(lb[(i:Int).toNat]?.getD default).v)+4294967296)⟩:U32)).length N by rw [aH]) ?_
       refine cS ((i+1,1,r.set i (⟨((la[(i:Int).toNat]?.getD default).v - (cy+(lb[(i:Int).toNat]?.getD default).v)+4294967296)⟩:U32))) ?_ ?_
       · exact ⟨by omega,by rw [aH];exact hrN,tU hdr _ sV,by decide,by decide,Eu (cy':=1) sV hv (by rw [←e1,←e2];omega)⟩
       show la.length - (i+1)<la.length - i
       omega
     refine aK 14 [1] ?_
     refine dP (α:=U32) T.sl87 ?_
     refine fQ 0 T.one166 ?_
     refine aJ 24 [1] ?_
     refine dP (α:=U32) T.sl87 ?_
     refine fQ 0 T.one166 ?_
     refine aN (cD rfl T.u165 rfl sV) ?_
     refine aN (gF rfl rfl sV) ?_
     refine aJ 6 [] ?_
     refine aN (cD rfl T.u165 rfl sV) ?_
     refine aA 1 [] ?_
     refine aN (jF rfl rfl sV) ?_
     refine aJ 8 [] ?_
     refine aN (gL rfl T.u166 rfl sV) ?_
     refine fW (α:=U32) T.sl87 ?_
     refine eX (z:=_) 0 T.size166 rfl rfl rfl sW sV rfl fun ho1=>?_
     refine aJ 4 [] ?_
     refine aN (fA rfl rfl sV) ?_
     refine aN (oN rfl rfl sV) ?_
     refine aW 8 [] ?_
     have es:((la[(i:Int).toNat]?.getD default).v - (cy+(lb[(i:Int).toNat]?.getD default).v))=((la[(i:Int).toNat]?.getD default).v - (cy+(lb[(i:Int).toNat]?.getD default).v)):=sV
     have ec:((la[(i:Int).toNat]?.getD default).v - (cy+(lb[(i:Int).toNat]?.getD default).v)) / 4294967296 % 2=0:=sV
     refine cZ 7 rfl (show _=Value.int .u64 0 by rw [ec]) ?_
     refine iB 0 (tK 166 (r.set i (⟨((la[(i:Int).toNat]?.getD default).v - (cy+(lb[(i:Int).toNat]?.getD default).v))⟩:U32)) []) rfl Yr ?_
     refine cZ 6 rfl (show _=Value.slice (some ⟨b1,0,none⟩) (r.set i (⟨((la[(i:Int).toNat]?.getD default).v - (cy+(lb[(i:Int).toNat]?.getD default).v))⟩:U32)).length N by rw [aH]) ?_
     refine cS ((i+1,0,r.set i (⟨((la[(i:Int).toNat]?.getD default).v - (cy+(lb[(i:Int).toNat]?.getD default).v))⟩:U32))) ?_ ?_
     · exact ⟨by omega,by rw [aH];exact hrN,tU hdr _ sV,by decide,by decide,Eu (cy':=0) sV hv (by rw [←e1,←e2];omega)⟩
     show la.length - (i+1)<la.length - i
     omega
   have z:=Bp hib
   by_cases hlt:(la[((i:Nat):Int).toNat]?.getD default).v<cy
   · refine aK 14 [1] ?_
     refine dP (α:=U32) T.sl87 ?_
     refine fQ 0 T.one166 ?_
     refine aJ 25 [0] ?_
     refine aN (cD rfl T.u165 rfl sV) ?_
     refine aA 1 [] ?_
     refine aN (qM rfl rfl sV) ?_
     refine aJ 8 [] ?_
     refine aN (gR rfl T.u166 rfl) ?_
     refine fW (α:=U32) T.sl87 ?_
     refine eX (z:=_) 0 T.size166 rfl rfl rfl sW sV rfl fun ho1=>?_
     refine aJ 4 [] ?_
     refine aN (fA rfl rfl sV) ?_
     refine aN (oN rfl rfl sV) ?_
     refine aW 8 [] ?_
     have es:((la[(i:Int).toNat]?.getD default).v - (cy)+18446744073709551616) % 4294967296=((la[(i:Int).toNat]?.getD default).v - (cy)+4294967296):=sV
     have ec:((la[(i:Int).toNat]?.getD default).v - (cy)+18446744073709551616) / 4294967296 % 2=1:=sV
     refine cZ 7 rfl (show _=Value.int .u64 1 by rw [ec]) ?_
     refine iB 0 (tK 166 (r.set i (⟨((la[(i:Int).toNat]?.getD default).v - (cy)+4294967296)⟩:U32)) []) rfl Yr ?_
     refine cZ 6 rfl (show _=Value.slice (some ⟨b1,0,none⟩) (r.set i (⟨((la[(i:Int).toNat]?.getD default).v - (cy)+4294967296)⟩:U32)).length N by rw [aH]) ?_
     refine cS ((i+1,1,r.set i (⟨((la[(i:Int).toNat]?.getD default).v - (cy)+4294967296)⟩:U32))) ?_ ?_
     · exact ⟨by omega,by rw [aH];exact hrN,tU hdr _ sV,by decide,by decide,Eu (cy':=1) sV hv (by rw [←e1,z];omega)⟩
     show la.length - (i+1)<la.length - i
     omega
   refine aK 14 [1] ?_
   refine dP (α:=U32) T.sl87 ?_
   refine fQ 0 T.one166 ?_
   refine aJ 25 [0] ?_
   refine aN (cD rfl T.u165 rfl sV) ?_
   refine aA 1 [] ?_
   refine aN (jF rfl rfl sV) ?_
   refine aJ 8 [] ?_
   refine aN (gL rfl T.u166 rfl sV) ?_
   refine fW (α:=U32) T.sl87 ?_
   refine eX (z:=_) 0 T.size166 rfl rfl rfl sW sV rfl fun ho1=>?_
   refine aJ 4 [] ?_
   refine aN (fA rfl rfl sV) ?_
   refine aN (oN rfl rfl sV) ?_
   refine aW 8 [] ?_
   have es:((la[(i:Int).toNat]?.getD default).v - (cy))=((la[(i:Int).toNat]?.getD default).v - (cy)):=sV
   have ec:((la[(i:Int).toNat]?.getD default).v - (cy)) / 4294967296 % 2=0:=sV
   refine cZ 7 rfl (show _=Value.int .u64 0 by rw [ec]) ?_
   refine iB 0 (tK 166 (r.set i (⟨((la[(i:Int).toNat]?.getD default).v - (cy))⟩:U32)) []) rfl Yr ?_
   refine cZ 6 rfl (show _=Value.slice (some ⟨b1,0,none⟩) (r.set i (⟨((la[(i:Int).toNat]?.getD default).v - (cy))⟩:U32)).length N by rw [aH]) ?_
   refine cS ((i+1,0,r.set i (⟨((la[(i:Int).toNat]?.getD default).v - (cy))⟩:U32))) ?_ ?_
   · exact ⟨by omega,by rw [aH];exact hrN,tU hdr _ sV,by decide,by decide,Eu (cy':=0) sV hv (by rw [←e1,z];omega)⟩
   show la.length - (i+1)<la.length - i
   omega
 have hii:i=la.length:=sV
 subst hii
 refine aK 15 [0] ?_
 refine cR 0 rfl hor fun G9 hle9 hA=>?_
 refine bV 1 rfl (Jb _ _ _ _ sW sV uU) fun v1 G1 Ho1 hle1 hp=>?_
 obtain ⟨ta1,tm1,rfl,hta1,hte1,htr1,htl1,rfl,rfl⟩:=hp
 refine aW 5 [] ?_
 refine eG ?_
 exact ⟨_,rfl,oA hta1 hte1 htr1 hdr (MT rfl h2 hle sV hdr ⟨hc0,hc1⟩ hv) sV,rfl⟩
end
theorem Ew (n k:Nat):lg (List.replicate n (default:U32)) k=0:=by
 unfold lg
 rw [aF,fP]
 split <;> rfl
section
attribute [local irreducible] sX pb tQ
theorem XY (G:Imm) (a b:Option Addr) (ca cb:Nat) (la lb:List U32) (ha:Arr G a la) (hb:Arr G b lb) (da:Lims la) (db:Lims lb) (h1:la.length≤536870912) (h2:lb.length≤536870912) :
 Does Tryz.prog 120 [.slice a la.length ca,.slice b lb.length cb] G [] (fun v G' Ho=>Nat32 G' v (sX la*sX lb) (la.length+lb.length)∧Ho=[]):=by
 refine D0 Tryz.func120 Tryz.ntmps120 fun w=>?_
 refine aK 12 [] ?_
 refine iC (α:=U32) 0 rfl T.sl87 T.el166 rfl rfl sV sV fun b1=>?_
 refine bJ 12 [] ?_
 obtain ⟨N,hN⟩:∃ N,N=la.length+lb.length:=⟨_,rfl⟩
 have hM:((la.length:Int)+(lb.length:Int)).toNat=N:=sV
 rw [hM]
 have hown:∀ r:List U32,r.length=N→OwnA (some ⟨b1,0,none⟩) N r []:=fun r hr=>.inr ⟨b1,rfl,by rw [hr];rfl,by omega,by simp only [maxLen];omega⟩
 refine jE 5 rfl (show _=Value.slice (some ⟨b1,0,none⟩) (List.replicate N (default:U32)).length N by rw [aE]) ?_
 refine gC (ι:=Nat×List U32) (fun (i,r)=>([(19,.int .i64 (i:Int)),(5,.slice (some ⟨b1,0,none⟩) r.length N),(18,.int .i64 (la.length:Int)),(17,.slice a (List.length la) ca),(4,.slice none 0 0),(1,.slice b (List.length lb) cb)],[(0,some b1,tK 166 r [])])) (fun (i,r)=>i≤la.length∧r.length=N∧Lims r∧sX r=sX (la.take i)*sX lb∧∀ k,i+lb.length≤k→lg r k=0) (fun (i,r)=>la.length - i) ((0,List.replicate N (default:U32))) (⟨aU _,aE,nR N,by rw [bN,tX,gK];exact yY N,fun k _=>Ew N k⟩) fun ⟨i,r⟩=>fun hk=>?_
 obtain ⟨hi,hrN,hdr,hv,hz⟩:=hk
 rcases aM i la.length with hia | hia
 · have hxi:0≤(la[(i:Int).toNat]?.getD default).v∧(la[(i:Int).toNat]?.getD default).v<4294967296:=zN da hia
   refine aK 14 [1] ?_
   refine dP (α:=U32) T.sl87 ?_
   refine fQ 0 T.one166 ?_
   refine bJ 18 [] ?_
   refine gC (ι:=Nat×Int×List U32) (fun (j,c,s)=>([(26,.int .i64 (j:Int)),(8,.int .u64 c),(5,.slice (some ⟨b1,0,none⟩) s.length N),(17,.slice a la.length ca),(18,.int .i64 (la.length:Int)),(25,.int .i64 (lb.length:Int)),(24,.slice b (List.length lb) cb),(7,.int .u32 (Go.Sl.U32.v (Option.getD la[Int.toNat (↑i:Int)]? default))),(6,.int .i64 (↑i:Int)),(19,.int .i64 (↑i:Int)),(4,.slice none 0 0),(1,.slice b (List.length lb) cb)],[(0,some b1,tK 166 s [])])) (fun (j,c,s)=>0≤c∧c≤4294967295∧s.length=N∧Lims s∧sX s+pb (i+j)*c=sX (la.take i)*sX lb+pb i*(lg la i*sX (lb.take j))∧j≤lb.length∧∀ k,i+lb.length≤k→lg s k=0) (fun (j,c,s)=>lb.length - j) ((0,0,r)) (⟨by decide,by decide,hrN,hdr,by rw [cI,bN,tX,cI,cI,dG,dG];exact hv,aU _,hz⟩) fun ⟨j,c,s⟩=>fun hk=>?_
   obtain ⟨hc0,hc1,hsN,hds,hvs,hjl,hzs⟩:=hk
   have hos:=hown s hsN
   have ekk:((i:Int)+(j:Int)).toNat=i+j:=sV
   rcases aM j lb.length with hjb | hjb
   · have hyj:0≤(lb[(j:Int).toNat]?.getD default).v∧(lb[(j:Int).toNat]?.getD default).v<4294967296:=zN db hjb
     have hxy:=Ak hxi hyj
     have hxy2:0≤(la[(i:Int).toNat]?.getD default).v*(lb[(j:Int).toNat]?.getD default).v∧(la[(i:Int).toNat]?.getD default).v*(lb[(j:Int).toNat]?.getD default).v≤18446744073709551615:=sV
     have hsk:0≤(s[((i:Int)+(j:Int)).toNat]?.getD default).v∧(s[((i:Int)+(j:Int)).toNat]?.getD default).v<4294967296:=hds.at sV
     refine aK 14 [1] ?_
     refine dP (α:=U32) T.sl87 ?_
     refine fQ 0 T.one166 ?_
     refine aJ 8 [] ?_
     refine aN (cD rfl T.u165 rfl sV) ?_
     refine aA 1 [] ?_
     refine aN (cD rfl T.u165 rfl sV) ?_
     refine aN (nO rfl rfl uU) ?_
     refine aA 4 [] ?_
     refine fW (α:=U32) T.sl87 ?_
     refine nY 0 0 T.one166 ?_
     refine aN (cD rfl T.u165 rfl sV) ?_
     refine aN (gF rfl rfl sV) ?_
     refine aN (gF rfl rfl sV) ?_
     refine aJ 10 [] ?_
     refine aN (gR rfl T.u166 rfl) ?_
     refine fW (α:=U32) T.sl87 ?_
     refine eX (z:=_) 0 T.size166 rfl rfl rfl sW sV rfl fun ho1=>?_
     refine aJ 4 [] ?_
     refine aN (fA rfl rfl sV) ?_
     refine aW 8 [] ?_
     rw [ekk] at ⊢ hsk
     refine cZ 5 rfl (show _=Value.slice (some ⟨b1,0,none⟩) (s.set (i+j) (⟨(c+((la[(i:Int).toNat]?.getD default).v*(lb[(j:Int).toNat]?.getD default).v+(s[i+j]?.getD default).v)) % 4294967296⟩:U32)).length N by rw [aH]) ?_
     refine cS ((j+1,(c+((la[(i:Int).toNat]?.getD default).v*(lb[(j:Int).toNat]?.getD default).v+(s[i+j]?.getD default).v)) / 4294967296,s.set (i+j) (⟨(c+((la[(i:Int).toNat]?.getD default).v*(lb[(j:Int).toNat]?.getD default).v+(s[i+j]?.getD default).v)) % 4294967296⟩:U32))) ?_ ?_
     · exact ⟨by omega,by omega,by rw [aH];exact hsN,tU hds _ (Db _),CO sV hvs (by simp only [lg,aF]),by omega,fun k hk=>by rw [xO sV];exact hzs k hk⟩
     show lb.length - (j+1)<lb.length - j
     omega
   have hjj:j=lb.length:=sV
   subst hjj
   refine aK 19 [0] ?_
   refine aN (gL rfl T.u166 rfl sV) ?_
   refine fW (α:=U32) T.sl87 ?_
   refine eX (z:=_) 0 T.size166 rfl rfl rfl sW sV rfl fun ho1=>?_
   refine aW 7 [] ?_
   rw [ekk]
   refine cZ 5 rfl (show _=Value.slice (some ⟨b1,0,none⟩) (s.set (i+lb.length) (⟨c⟩:U32)).length N by rw [aH]) ?_
   refine cS ((i+1,s.set (i+lb.length) (⟨c⟩:U32))) ?_ ?_
   · exact ⟨by omega,by rw [aH];exact hsN,tU hds _ sV,GK sV (hzs _ (aG _)) hvs,fun k hk=>by rw [xO sV];exact hzs k sV⟩
   show la.length - (i+1)<la.length - i
   omega
 have hor:=hown r hrN
 rw [tH hia] at hv
 refine aK 15 [0] ?_
 refine cR 0 rfl hor fun G9 hle9 hA=>?_
 refine bV 1 rfl (Jb _ _ _ _ sW sV uU) fun v1 G1 Ho1 hle1 hp=>?_
 obtain ⟨ta1,tm1,rfl,hta1,hte1,htr1,htl1,rfl,rfl⟩:=hp
 refine aW 4 [] ?_
 refine bO ?_
 exact ⟨oA hta1 hte1 htr1 hdr hv sV,rfl⟩
theorem XZ (G:Imm) (a:Option Addr) (ca:Nat) (la:List U32) (B:Int) (ha:Arr G a la) (da:Lims la) (h1:la.length≤1073741824) (hB:0<B) (hB2:B<4294967296) :
 Does Tryz.prog 198 [.slice a la.length ca,.int .u32 B] G [] (fun v G' Ho=>∃ r q m,v=.tuple #[r,.int .u32 m,.int .i64 0]∧Nat32 G' r q la.length∧sX la=q*B+m∧0≤m∧m<B∧Ho=[]):=by
 refine D0 Tryz.func198 Tryz.ntmps198 fun w=>?_
 refine aK 21 [0] ?_
 refine iC (α:=U32) 0 rfl T.sl87 T.el166 rfl rfl sV sV fun b1=>?_
 refine bJ 18 [] ?_
 obtain ⟨N,hN⟩:∃ N,N=la.length:=⟨_,rfl⟩
 have hM:(la.length:Int).toNat=N:=sV
 rw [hM]
 have hown:∀ r:List U32,r.length=N→OwnA (some ⟨b1,0,none⟩) N r []:=fun r hr=>.inr ⟨b1,rfl,by rw [hr];rfl,by omega,by simp only [maxLen];omega⟩
 refine jE 7 rfl (show _=Value.slice (some ⟨b1,0,none⟩) (List.replicate N (default:U32)).length N by rw [aE]) ?_
 refine gC (ι:=Nat×Int×List U32) (fun (k,r,q)=>([(9,.int .i64 ((k:Int) - 1)),(8,.int .u64 r),(7,.slice (some ⟨b1,0,none⟩) q.length N),(6,.int .i64 0),(5,.int .u32 0),(4,.slice none 0 0),(0,.slice a (List.length la) ca),(1,.int .u32 B)],[(0,some b1,tK 166 q [])])) (fun (k,r,q)=>k≤la.length∧q.length=N∧Lims q∧0≤r∧r<B∧sX (la.drop k)=sX (q.drop k)*B+r) (fun (k,r,q)=>k) ((la.length,0,List.replicate N (default:U32))) (⟨aG _,aE,nR N,by decide,hB,by rw [eI (aG _),eI Az,tX,gK];rfl⟩) fun ⟨k,r,q⟩=>fun hk=>?_
 obtain ⟨hk1,hqN,hdq,hr0,hr1,hv⟩:=hk
 have hoq:=hown q hqN
 rcases eU k with rfl | hpos
 · rw [iZ,iZ] at hv
   refine aK 16 [0] ?_
   refine cR 0 rfl hoq fun G9 hle9 hA=>?_
   refine bV 1 rfl (Jb _ _ _ _ sW sV uU) fun v1 G1 Ho1 hle1 hp=>?_
   obtain ⟨ta1,tm1,rfl,hta1,hte1,htr1,htl1,rfl,rfl⟩:=hp
   refine aA 1 [] ?_
   refine aN (gL rfl T.u166 rfl sV) ?_
   refine aW 6 [] ?_
   refine Ar.e3 ?_
   exact ⟨_,_,_,rfl,oA hta1 hte1 htr1 hdq rfl sV,hv,hr0,hr1,rfl⟩
 obtain ⟨i,rfl⟩:∃ i,k=i+1:=⟨k - 1,by omega⟩
 have hai:=zN da (show i<la.length by omega)
 have ei:(((i+1:Nat):Int) - 1).toNat=i:=sV
 have eA:(la[(((i+1:Nat):Int) - 1).toNat]?.getD default).v=lg la i:=by unfold lg;rw [ei,aF]
 have hsl:=CQ ⟨hr0,hr1⟩ hai
 have hsl':0≤(r*4294967296+(la[(((i+1:Nat):Int) - 1).toNat]?.getD default).v) / B∧(r*4294967296+(la[(((i+1:Nat):Int) - 1).toNat]?.getD default).v) / B≤4294967295:=by
  rw [eA]
  exact ⟨hsl.1,by have:=hsl.2;omega⟩
 have hrm:0≤(r*4294967296+lg la i) % B∧(r*4294967296+lg la i) % B<B:=⟨iM _ sV,eF _ hB⟩
 refine aK 15 [1] ?_
 refine aN (rY rfl rfl sV) ?_
 refine aA 2 [] ?_
 refine dP (α:=U32) T.sl87 ?_
 refine fQ 0 T.one166 ?_
 refine aN (cD rfl T.u165 rfl sV) ?_
 refine aN (Es rfl rfl sV sV) ?_
 refine aJ 9 [] ?_
 refine aN (cD rfl T.u165 rfl sV) ?_
 refine aN (oU rfl rfl sV) ?_
 refine aN (gL rfl T.u166 rfl sV) ?_
 refine fW (α:=U32) T.sl87 ?_
 refine eX (z:=_) 0 T.size166 rfl rfl rfl sW sV rfl fun ho1=>?_
 refine aJ 5 [] ?_
 refine aN (cD rfl T.u165 rfl sV) ?_
 refine aN (jO rfl rfl sV) ?_
 refine aW 9 [] ?_
 rw [eA]
 refine cZ 9 rfl (show _=Value.int .i64 ((i:Int) - 1) by congr 1;omega) ?_
 refine iB 0 (tK 166 (q.set i ⟨(r*4294967296+lg la i) / B⟩) []) rfl (by rw [ei]) ?_
 refine cZ 7 rfl (show _=Value.slice (some ⟨b1,0,none⟩) (q.set i ⟨(r*4294967296+lg la i) / B⟩).length N by rw [aH]) ?_
 refine cS ((i,(r*4294967296+lg la i) % B,q.set i ⟨(r*4294967296+lg la i) / B⟩)) ?_ ?_
 · exact ⟨by omega,by rw [aH];exact hqN,tU hdq _ hsl,hrm.1,hrm.2,To sV sV hv⟩
 show i<i+1
 omega
end
theorem Zd {r s:List U32} {i:Nat} (h:s.drop i=r.drop i):lg s i=lg r i:=by
 have e:s[i]?=r[i]?:=by
  have:=congrArg (·[0]?) h
  simpa [eV] using this
 unfold lg;rw [aF,e]
theorem wF {r s:List U32} {i:Nat} (h:s.drop i=r.drop i) (d:U32):(s.set i d).drop (i+1)=r.drop (i+1):=by
 rw [oI sV,←lE,←lE,h]
section
attribute [local irreducible] sX pb tQ
theorem YA (G:Imm) (b:Nat) (p u q:List U32) (junk:List Value) (cw:Nat) (v:Option Addr) (cv:Nat) (lv:List U32) (t:Int) (hv:Arr G v lv) (du:Lims u) (dv:Lims lv) (h1:u.length≤1073741824) (h2:lv.length<u.length) (ht:0≤t∧t<4294967296) :
 Does Tryz.prog 247 [.slice (some ⟨b,p.length,none⟩) u.length cw,.slice v lv.length cv,.int .u64 t] G [(0,some b,tK 166 (p++(u++q)) junk)] (fun r G' Ho=>∃ (w:List U32) (o:Int),r=.bool (decide (0<o))∧Ho=[(0,some b,tK 166 (p++(w++q)) junk)]∧G'=G∧(o=0∨o=1)∧w.length=u.length∧Lims w∧sX u - t*sX lv=sX w - pb u.length*o):=by
 refine D0 Tryz.func247 Tryz.ntmps247 fun w=>?_
 refine cF 20 [] ?_
 refine gC (ι:=Nat×Int×Int×List U32) (fun (i,c,o,w)=>([(13,.int .i64 (i:Int)),(7,.int .u64 c),(8,.int .u64 o),(12,.int .i64 (u.length:Int)),(6,.bool Bool.false),(0,.slice (some (Addr.mk b (List.length p) none)) (List.length u) cw),(1,.slice v (List.length lv) cv),(2,.int .u64 t)],[(0,some b,tK 166 (p++(w++q)) junk)])) (fun (i,c,o,w)=>i≤u.length∧w.length=u.length∧Lims w∧0≤c∧c<4294967296∧0≤o∧o≤1∧(lv.length<i→c=0)∧w.drop i=u.drop i∧sX (u.take i) - t*sX (lv.take i)=sX (w.take i) - pb i*(o+c)) (fun (i,c,o,w)=>u.length - i) ((0,0,0,u)) (⟨aU _,rfl,du,by decide,by decide,by decide,by decide,fun _=>rfl,rfl,by rw [bN,bN,tX,cI,dG,cI]⟩) fun ⟨i,c,o,w⟩=>fun hk=>?_
 obtain ⟨hi,hwn,hdw,hc0,hc1,ho0,ho1,hcz,hdrop,hval⟩:=hk
 rcases aM i u.length with hia | hia
 · have hx:0≤(w[(i:Int).toNat]?.getD default).v∧(w[(i:Int).toNat]?.getD default).v<4294967296:=zN hdw sV
   have ex:(w[(i:Int).toNat]?.getD default).v=lg u i:=Zd hdrop
   rcases aM i lv.length with hib | hib
   · have hy:0≤(lv[(i:Int).toNat]?.getD default).v∧(lv[(i:Int).toNat]?.getD default).v<4294967296:=zN dv hib
     have hca:=Xc ⟨hc0,hc1⟩ hy ht
     have hm:0≤(lv[(i:Int).toNat]?.getD default).v*t∧(lv[(i:Int).toNat]?.getD default).v*t≤18446744073709551615:=sV
     by_cases hlt:(w[((i:Nat):Int).toNat]?.getD default).v<(c+(lv[((i:Nat):Int).toNat]?.getD default).v*t) % 4294967296
     · refine aK 31 [1,1] ?_
       refine dP (α:=U32) T.sl87 ?_
       refine fQ 0 T.one166 ?_
       refine aN (cD rfl T.u165 rfl sV) ?_
       refine aA 1 [] ?_
       refine aN (nO rfl rfl uU) ?_
       refine aN (gF rfl rfl sV) ?_
       refine aJ 7 [] ?_
       refine aN (dI T.sl87 rfl rfl sV) ?_
       refine aN (lA 0 T.one166 rfl rfl sV) ?_
       refine aN (cD rfl T.u165 rfl sV) ?_
       refine aA 1 [] ?_
       refine aN (pT rfl rfl sV) ?_
       refine aN (qM rfl rfl sV) ?_
       refine aA 1 [] ?_
       refine aN (jF rfl rfl sV) ?_
       refine aJ 6 [] ?_
       refine aN (fA rfl rfl sV) ?_
       refine aJ 8 [] ?_
       refine aN (gR rfl T.u166 rfl) ?_
       refine aN (dI T.sl87 rfl rfl sV) ?_
       refine pZ 0 T.size166 rfl rfl rfl sV ?_
       refine aJ 4 [] ?_
       refine aN (fA rfl rfl sV) ?_
       refine aN (oN rfl rfl sV) ?_
       refine aW 8 [] ?_
       have es:((w[(i:Int).toNat]?.getD default).v - (c+(lv[(i:Int).toNat]?.getD default).v*t) % 4294967296+18446744073709551616 - o) % 4294967296=((w[(i:Int).toNat]?.getD default).v - (c+(lv[(i:Int).toNat]?.getD default).v*t) % 4294967296 - o+4294967296*1):=sV
       have ec:((w[(i:Int).toNat]?.getD default).v - (c+(lv[(i:Int).toNat]?.getD default).v*t) % 4294967296+18446744073709551616 - o) / 4294967296 % 2=1:=sV
       refine cZ 8 rfl (show _=Value.int .u64 1 by rw [ec]) ?_
       refine iB 0 (tK 166 (p++(w.set i (⟨((w[(i:Int).toNat]?.getD default).v - (c+(lv[(i:Int).toNat]?.getD default).v*t) % 4294967296 - o+4294967296*1)⟩:U32)++q)) junk) rfl Oh ?_
       refine cS ((i+1,(c+(lv[(i:Int).toNat]?.getD default).v*t) / 4294967296,1,w.set i (⟨((w[(i:Int).toNat]?.getD default).v - (c+(lv[(i:Int).toNat]?.getD default).v*t) % 4294967296 - o+4294967296*1)⟩:U32))) ?_ ?_
       · exact ⟨by omega,by rw [aH];exact hwn,tU hdw _ sV,by omega,by omega,by decide,by decide,by omega,wF hdrop _,yO (c':=(c+(lv[(i:Int).toNat]?.getD default).v*t)) (b:=o) (b':=1) sV hval wA (by rw [←ex])⟩
       show u.length - (i+1)<u.length - i
       omega
     by_cases hlt2:(w[((i:Nat):Int).toNat]?.getD default).v - (c+(lv[((i:Nat):Int).toNat]?.getD default).v*t) % 4294967296<o
     · refine aK 31 [1,1] ?_
       refine dP (α:=U32) T.sl87 ?_
       refine fQ 0 T.one166 ?_
       refine aN (cD rfl T.u165 rfl sV) ?_
       refine aA 1 [] ?_
       refine aN (nO rfl rfl uU) ?_
       refine aN (gF rfl rfl sV) ?_
       refine aJ 7 [] ?_
       refine aN (dI T.sl87 rfl rfl sV) ?_
       refine aN (lA 0 T.one166 rfl rfl sV) ?_
       refine aN (cD rfl T.u165 rfl sV) ?_
       refine aA 1 [] ?_
       refine aN (pT rfl rfl sV) ?_
       refine aN (jF rfl rfl sV) ?_
       refine aA 1 [] ?_
       refine aN (qM rfl rfl sV) ?_
       refine aJ 6 [] ?_
       refine aN (fA rfl rfl sV) ?_
       refine aJ 8 [] ?_
       refine aN (gR rfl T.u166 rfl) ?_
       refine aN (dI T.sl87 rfl rfl sV) ?_
       refine pZ 0 T.size166 rfl rfl rfl sV ?_
       refine aJ 4 [] ?_
       refine aN (fA rfl rfl sV) ?_
       refine aN (oN rfl rfl sV) ?_
       refine aW 8 [] ?_
       have es:((w[(i:Int).toNat]?.getD default).v - (c+(lv[(i:Int).toNat]?.getD default).v*t) % 4294967296 - o+18446744073709551616) % 4294967296=((w[(i:Int).toNat]?.getD default).v - (c+(lv[(i:Int).toNat]?.getD default).v*t) % 4294967296 - o+4294967296*1):=sV
       have ec:((w[(i:Int).toNat]?.getD default).v - (c+(lv[(i:Int).toNat]?.getD default).v*t) % 4294967296 - o+18446744073709551616) / 4294967296 % 2=1:=sV
       refine cZ 8 rfl (show _=Value.int .u64 1 by rw [ec]) ?_
       refine iB 0 (tK 166 (p++(w.set i (⟨((w[(i:Int).toNat]?.getD default).v - (c+(lv[(i:Int).toNat]?.getD default).v*t) % 4294967296 - o+4294967296*1)⟩:U32)++q)) junk) rfl Oh ?_
       refine cS ((i+1,(c+(lv[(i:Int).toNat]?.getD default).v*t) / 4294967296,1,w.set i (⟨((w[(i:Int).toNat]?.getD default).v - (c+(lv[(i:Int).toNat]?.getD default).v*t) % 4294967296 - o+4294967296*1)⟩:U32))) ?_ ?_
       · exact ⟨by omega,by rw [aH];exact hwn,tU hdw _ sV,by omega,by omega,by decide,by decide,by omega,wF hdrop _,yO (c':=(c+(lv[(i:Int).toNat]?.getD default).v*t)) (b:=o) (b':=1) sV hval wA (by rw [←ex])⟩
       show u.length - (i+1)<u.length - i
       omega
     refine aK 31 [1,1] ?_
     refine dP (α:=U32) T.sl87 ?_
     refine fQ 0 T.one166 ?_
     refine aN (cD rfl T.u165 rfl sV) ?_
     refine aA 1 [] ?_
     refine aN (nO rfl rfl uU) ?_
     refine aN (gF rfl rfl sV) ?_
     refine aJ 7 [] ?_
     refine aN (dI T.sl87 rfl rfl sV) ?_
     refine aN (lA 0 T.one166 rfl rfl sV) ?_
     refine aN (cD rfl T.u165 rfl sV) ?_
     refine aA 1 [] ?_
     refine aN (pT rfl rfl sV) ?_
     refine aN (jF rfl rfl sV) ?_
     refine aA 1 [] ?_
     refine aN (jF rfl rfl sV) ?_
     refine aJ 6 [] ?_
     refine aN (fA rfl rfl sV) ?_
     refine aJ 8 [] ?_
     refine aN (gL rfl T.u166 rfl sV) ?_
     refine aN (dI T.sl87 rfl rfl sV) ?_
     refine pZ 0 T.size166 rfl rfl rfl sV ?_
     refine aJ 4 [] ?_
     refine aN (fA rfl rfl sV) ?_
     refine aN (oN rfl rfl sV) ?_
     refine aW 8 [] ?_
     have es:((w[(i:Int).toNat]?.getD default).v - (c+(lv[(i:Int).toNat]?.getD default).v*t) % 4294967296 - o)=((w[(i:Int).toNat]?.getD default).v - (c+(lv[(i:Int).toNat]?.getD default).v*t) % 4294967296 - o+4294967296*0):=sV
     have ec:((w[(i:Int).toNat]?.getD default).v - (c+(lv[(i:Int).toNat]?.getD default).v*t) % 4294967296 - o) / 4294967296 % 2=0:=sV
     refine cZ 8 rfl (show _=Value.int .u64 0 by rw [ec]) ?_
     refine iB 0 (tK 166 (p++(w.set i (⟨((w[(i:Int).toNat]?.getD default).v - (c+(lv[(i:Int).toNat]?.getD default).v*t) % 4294967296 - o+4294967296*0)⟩:U32)++q)) junk) rfl Oh ?_
     refine cS ((i+1,(c+(lv[(i:Int).toNat]?.getD default).v*t) / 4294967296,0,w.set i (⟨((w[(i:Int).toNat]?.getD default).v - (c+(lv[(i:Int).toNat]?.getD default).v*t) % 4294967296 - o+4294967296*0)⟩:U32))) ?_ ?_
     · exact ⟨by omega,by rw [aH];exact hwn,tU hdw _ sV,by omega,by omega,by decide,by decide,by omega,wF hdrop _,yO (c':=(c+(lv[(i:Int).toNat]?.getD default).v*t)) (b:=o) (b':=0) sV hval wA (by rw [←ex])⟩
     show u.length - (i+1)<u.length - i
     omega
   have z:=Bp hib
   by_cases hlt:(w[((i:Nat):Int).toNat]?.getD default).v<(c) % 4294967296
   · refine aK 33 [1,0] ?_
     refine aN (dI T.sl87 rfl rfl sV) ?_
     refine aN (lA 0 T.one166 rfl rfl sV) ?_
     refine aN (cD rfl T.u165 rfl sV) ?_
     refine aA 1 [] ?_
     refine aN (pT rfl rfl sV) ?_
     refine aN (qM rfl rfl sV) ?_
     refine aA 1 [] ?_
     refine aN (jF rfl rfl sV) ?_
     refine aJ 6 [] ?_
     refine aN (fA rfl rfl sV) ?_
     refine aJ 8 [] ?_
     refine aN (gR rfl T.u166 rfl) ?_
     refine aN (dI T.sl87 rfl rfl sV) ?_
     refine pZ 0 T.size166 rfl rfl rfl sV ?_
     refine aJ 4 [] ?_
     refine aN (fA rfl rfl sV) ?_
     refine aN (oN rfl rfl sV) ?_
     refine aW 8 [] ?_
     have es:((w[(i:Int).toNat]?.getD default).v - (c) % 4294967296+18446744073709551616 - o) % 4294967296=((w[(i:Int).toNat]?.getD default).v - (c) % 4294967296 - o+4294967296*1):=sV
     have ec:((w[(i:Int).toNat]?.getD default).v - (c) % 4294967296+18446744073709551616 - o) / 4294967296 % 2=1:=sV
     refine cZ 8 rfl (show _=Value.int .u64 1 by rw [ec]) ?_
     refine iB 0 (tK 166 (p++(w.set i (⟨((w[(i:Int).toNat]?.getD default).v - (c) % 4294967296 - o+4294967296*1)⟩:U32)++q)) junk) rfl Oh ?_
     refine cS ((i+1,(c) / 4294967296,1,w.set i (⟨((w[(i:Int).toNat]?.getD default).v - (c) % 4294967296 - o+4294967296*1)⟩:U32))) ?_ ?_
     · exact ⟨by omega,by rw [aH];exact hwn,tU hdw _ sV,by omega,by omega,by decide,by decide,by intro _;omega,wF hdrop _,yO (c':=(c)) (b:=o) (b':=1) sV hval FD (by rw [←ex])⟩
     show u.length - (i+1)<u.length - i
     omega
   by_cases hlt2:(w[((i:Nat):Int).toNat]?.getD default).v - (c) % 4294967296<o
   · refine aK 33 [1,0] ?_
     refine aN (dI T.sl87 rfl rfl sV) ?_
     refine aN (lA 0 T.one166 rfl rfl sV) ?_
     refine aN (cD rfl T.u165 rfl sV) ?_
     refine aA 1 [] ?_
     refine aN (pT rfl rfl sV) ?_
     refine aN (jF rfl rfl sV) ?_
     refine aA 1 [] ?_
     refine aN (qM rfl rfl sV) ?_
     refine aJ 6 [] ?_
     refine aN (fA rfl rfl sV) ?_
     refine aJ 8 [] ?_
     refine aN (gR rfl T.u166 rfl) ?_
     refine aN (dI T.sl87 rfl rfl sV) ?_
     refine pZ 0 T.size166 rfl rfl rfl sV ?_
     refine aJ 4 [] ?_
     refine aN (fA rfl rfl sV) ?_
     refine aN (oN rfl rfl sV) ?_
     refine aW 8 [] ?_
     have es:((w[(i:Int).toNat]?.getD default).v - (c) % 4294967296 - o+18446744073709551616) % 4294967296=((w[(i:Int).toNat]?.getD default).v - (c) % 4294967296 - o+4294967296*1):=sV
     have ec:((w[(i:Int).toNat]?.getD default).v - (c) % 4294967296 - o+18446744073709551616) / 4294967296 % 2=1:=sV
     refine cZ 8 rfl (show _=Value.int .u64 1 by rw [ec]) ?_
     refine iB 0 (tK 166 (p++(w.set i (⟨((w[(i:Int).toNat]?.getD default).v - (c) % 4294967296 - o+4294967296*1)⟩:U32)++q)) junk) rfl Oh ?_
     refine cS ((i+1,(c) / 4294967296,1,w.set i (⟨((w[(i:Int).toNat]?.getD default).v - (c) % 4294967296 - o+4294967296*1)⟩:U32))) ?_ ?_
     · exact ⟨by omega,by rw [aH];exact hwn,tU hdw _ sV,by omega,by omega,by decide,by decide,by intro _;omega,wF hdrop _,yO (c':=(c)) (b:=o) (b':=1) sV hval FD (by rw [←ex])⟩
     show u.length - (i+1)<u.length - i
     omega
   refine aK 33 [1,0] ?_
   refine aN (dI T.sl87 rfl rfl sV) ?_
   refine aN (lA 0 T.one166 rfl rfl sV) ?_
   refine aN (cD rfl T.u165 rfl sV) ?_
   refine aA 1 [] ?_
   refine aN (pT rfl rfl sV) ?_
   refine aN (jF rfl rfl sV) ?_
   refine aA 1 [] ?_
   refine aN (jF rfl rfl sV) ?_
   refine aJ 6 [] ?_
   refine aN (fA rfl rfl sV) ?_
   refine aJ 8 [] ?_
   refine aN (gL rfl T.u166 rfl sV) ?_
   refine aN (dI T.sl87 rfl rfl sV) ?_
   refine pZ 0 T.size166 rfl rfl rfl sV ?_
   refine aJ 4 [] ?_
   refine aN (fA rfl rfl sV) ?_
   refine aN (oN rfl rfl sV) ?_
   refine aW 8 [] ?_
   have es:((w[(i:Int).toNat]?.getD default).v - (c) % 4294967296 - o)=((w[(i:Int).toNat]?.getD default).v - (c) % 4294967296 - o+4294967296*0):=sV
   have ec:((w[(i:Int).toNat]?.getD default).v - (c) % 4294967296 - o) / 4294967296 % 2=0:=sV
   refine cZ 8 rfl (show _=Value.int .u64 0 by rw [ec]) ?_
   refine iB 0 (tK 166 (p++(w.set i (⟨((w[(i:Int).toNat]?.getD default).v - (c) % 4294967296 - o+4294967296*0)⟩:U32)++q)) junk) rfl Oh ?_
   refine cS ((i+1,(c) / 4294967296,0,w.set i (⟨((w[(i:Int).toNat]?.getD default).v - (c) % 4294967296 - o+4294967296*0)⟩:U32))) ?_ ?_
   · exact ⟨by omega,by rw [aH];exact hwn,tU hdw _ sV,by omega,by omega,by decide,by decide,by intro _;omega,wF hdrop _,yO (c':=(c)) (b:=o) (b':=0) sV hval FD (by rw [←ex])⟩
   show u.length - (i+1)<u.length - i
   omega
 have hii:i=u.length:=sV
 subst hii
 have hc:=hcz sV
 subst hc
 refine bE 20 [0] ?_
 refine qJ [0] ?_
 rw [tH (aG _),tH sV,tH sV,dG] at hval
 exact ⟨w,o,rfl,rfl,rfl,by omega,hwn,hdw,hval⟩
end
theorem GZ {u v:List U32} {m:Nat} (hu:u.length=m+3) (hv:v.length=m+2) (du:Lims u) (dv:Lims v) (h:sX u<4294967296*sX v):lg u (m+2)*4294967296+lg u (m+1)<lg v (m+1)*4294967296+4294967296:=by
 have e1:=MV hu
 have e2:=GQ hv
 have e3:=xD dv (show m≤v.length by omega)
 have e4:=xD du (show m≤u.length by omega)
 have a0:=vG dv m
 have b0:=vG du m
 have hp:=xC m
 generalize lg u (m+2)*4294967296+lg u (m+1)=high at *
 generalize lg v (m+1)=v1 at *
 generalize lg v m=v0 at *
 generalize lg u m=u0 at *
 refine pE (a:=pb m*4294967296) ?_ sV
 have f1:=aY (show v0+4294967296*v1+1≤v1*4294967296+4294967296 by omega) (bM hp)
 have f2:=jT (bM hp) b0.1
 rw [bI,fR] at f1
 rw [bI,←bR] at e1
 have f3:pb m*4294967296*(v1*4294967296+4294967296)=4294967296*(pb m*(v1*4294967296+4294967296)):=by rw [cN (pb m) 4294967296,bR]
 rw [f3]
 omega
section
attribute [local irreducible] sX pb tQ
theorem YB (G:Imm) (b:Nat) (p u q:List U32) (junk:List Value) (cw:Nat) (v:Option Addr) (cv:Nat) (lv:List U32) (m:Nat) (hv:Arr G v lv) (du:Lims u) (dv:Lims lv) (h1:u.length≤1073741824) (hu:u.length=m+3) (hl:lv.length=m+2) (htop:2147483648≤lg lv (m+1)) (hlt:sX u<4294967296*sX lv) :
 Does Tryz.prog 203 [.slice (some ⟨b,p.length,none⟩) u.length cw,.slice v lv.length cv] G [(0,some b,tK 166 (p++(u++q)) junk)] (fun r G' Ho=>∃ (w:List U32) (g:Int),r=.int .u32 g∧Ho=[(0,some b,tK 166 (p++(w++q)) junk)]∧G'=G∧0≤g∧g<4294967296∧w.length=u.length∧Lims w∧sX w=sX u - g*sX lv∧sX w<sX lv):=by
 have hU2:=vG du (m+2)
 have hU1:=vG du (m+1)
 have hU0:=vG du m
 have hV1:=vG dv (m+1)
 have hV0:=vG dv m
 have eu2:(u[((lv.length:Nat):Int).toNat]?.getD default).v=lg u (m+2):=by unfold lg;rw [hl]
 have eu1:(u[(((lv.length:Nat):Int) - 1).toNat]?.getD default).v=lg u (m+1):=by unfold lg;rw [show (((lv.length:Nat):Int) - 1).toNat=((m+1:Nat):Int).toNat by omega]
 have eu0:(u[(((lv.length:Nat):Int) - 2).toNat]?.getD default).v=lg u m:=by unfold lg;rw [show (((lv.length:Nat):Int) - 2).toNat=(m:Int).toNat by omega]
 have ev1:(lv[(((lv.length:Nat):Int) - 1).toNat]?.getD default).v=lg lv (m+1):=by unfold lg;rw [show (((lv.length:Nat):Int) - 1).toNat=((m+1:Nat):Int).toNat by omega]
 have ev0:(lv[(((lv.length:Nat):Int) - 2).toNat]?.getD default).v=lg lv m:=by unfold lg;rw [show (((lv.length:Nat):Int) - 2).toNat=(m:Int).toNat by omega]
 refine D0 Tryz.func203 Tryz.ntmps203 fun w=>?_
 have hp1:0<lg lv (m+1):=sV
 obtain ⟨high,hhigh⟩:∃ high,high=lg u (m+2)*4294967296+lg u (m+1):=⟨_,rfl⟩
 obtain ⟨hk1,hk2,hk3,hk4,hk5⟩:=GR hu hl du dv hhigh hp1 rfl rfl
 have hq:=Int.ediv_le_self (lg lv (m+1)) (show 0≤high by omega)
 have hVm:0<sX lv:=by
  have:=GQ hl
  have h3:=xD dv (show m≤lv.length by omega)
  have h4:=Int.mul_pos (xC m) (show 0<lg lv m+4294967296*lg lv (m+1) by omega)
  omega
 have hUp:sX u<4294967296*sX lv:=hlt
 have hbrk:high<lg lv (m+1)*4294967296+4294967296:=hhigh▸GZ hu hl du dv hlt
 refine cF 5 [] ?_
 refine Wc.scope ?_
 refine cF 8 [] ?_
 refine eB [0] [] T.mixed [[0],[1]] ?_
 refine gD 2 [] rfl (dI T.sl87 rfl rfl sV) ?_
 refine gD 3 [0] rfl (lA 0 T.one166 rfl rfl sV) ?_
 refine gD 4 [] rfl (cD rfl T.u165 rfl sV) ?_
 refine gD 5 [] rfl (rY rfl rfl sV) ?_
 refine eJ [[6],[7],[8]] ?_
 refine gD 9 [] rfl (dI T.sl87 rfl rfl sV) ?_
 refine gD 10 [0] rfl (lA 0 T.one166 rfl rfl sV) ?_
 refine gD 11 [] rfl (cD rfl T.u165 rfl sV) ?_
 refine gD 12 [] rfl (Es rfl rfl sV sV) ?_
 refine eJ [[13]] ?_
 refine dV ?_
 refine cE ?_
 refine rB (ι:=Int×Int) (fun (g,r)=>([(0,.slice (some ⟨b,p.length,none⟩) u.length cw),(1,.slice v lv.length cv),(5,.int .i64 (lv.length:Int)),(7,.int .u64 g),(8,.int .u64 r),(4,.int .u32 0)],[(0,some b,tK 166 (p++(u++q)) junk)])) (fun (g,r)=>g*lg lv (m+1)+r=high∧0≤g∧g≤18446744073709551615∧0≤r∧r<4294967296∧sX u<(g+1)*sX lv) ?_ fun ⟨g,r⟩=>fun (hk:g*lg lv (m+1)+r=high∧0≤g∧g≤18446744073709551615∧0≤r∧r<4294967296∧sX u<(g+1)*sX lv)=>?_
 · refine eB [0] [] T.mixed [[0],[1],[2],[3]] ?_
   refine jC (α:=U32) 4 T.sl87 ?_
   refine pA 5 [0] 0 T.one166 ?_
   refine gD 6 [] rfl (cD rfl T.u165 rfl sV) ?_
   refine gD 7 [] rfl (oU rfl rfl sV) ?_
   refine eJ [[8],[9],[10],[11]] ?_
   refine jC (α:=U32) 12 T.sl87 ?_
   refine pA 13 [0] 0 T.one166 ?_
   refine gD 14 [] rfl (cD rfl T.u165 rfl sV) ?_
   refine gD 15 [] rfl (jO rfl rfl sV) ?_
   refine eJ [[16],[17]] ?_
   refine dV ?_
   refine cZ 7 rfl (show _=Value.int .u64 (high / lg lv (m+1)) by rw [eu2,eu1,ev1,hhigh]) ?_
   refine cZ 8 rfl (show _=Value.int .u64 (high % lg lv (m+1)) by rw [eu2,eu1,ev1,hhigh]) ?_
   refine sJ ((high / lg lv (m+1),high % lg lv (m+1))) ?_
   exact ⟨hk1,hk2,by omega,hk3,by omega,hk5⟩
 obtain ⟨hg1,hg2,hg3,hr1,hr2,hgu⟩:=hk
 clear hk1 hk2 hk3 hk4 hk5 hq
 refine cF 3 [] ?_
 refine rB (ι:=Int) (fun gg=>([(0,.slice (some ⟨b,p.length,none⟩) u.length cw),(1,.slice v lv.length cv),(5,.int .i64 (lv.length:Int)),(7,.int .u64 gg),(4,.int .u32 0)],[(0,some b,tK 166 (p++(u++q)) junk)])) (fun gg=>0≤gg∧gg<4294967296∧sX u<(gg+1)*sX lv∧(gg - 1)*sX lv≤sX u) ?_ fun gg=>fun (hk:0≤gg∧gg<4294967296∧sX u<(gg+1)*sX lv∧(gg - 1)*sX lv≤sX u)=>?_
 · refine Wc.block ?_
   refine gC (ι:=Int×Int) (fun (g,r)=>([(7,.int .u64 g),(8,.int .u64 r),(0,.slice (some (Addr.mk b (List.length p) none)) (List.length u) cw),(1,.slice v (List.length lv) cv),(5,.int .i64 (lv.length:Int)),(4,.int .u32 0)],[(0,some b,tK 166 (p++(u++q)) junk)])) (fun (g,r)=>g*lg lv (m+1)+r=high∧0≤g∧g≤18446744073709551615∧0≤r∧r<4294967296∧sX u<(g+1)*sX lv) (fun (g,r)=>(4294967296 - r).toNat) ((g,r)) (⟨hg1,hg2,hg3,hr1,hr2,hgu⟩) fun ⟨g,r⟩=>fun (hk:g*lg lv (m+1)+r=high∧0≤g∧g≤18446744073709551615∧0≤r∧r<4294967296∧sX u<(g+1)*sX lv)=>?_
   clear hg1 hg2 hg3 hr1 hr2 hgu
   obtain ⟨hg1,hg2,hg3,hr1,hr2,hgu⟩:=hk
   have dec:4294967296≤g∨r*4294967296+lg u m<g*lg lv m→1≤g∧(g - 1)*lg lv (m+1)+(r+lg lv (m+1))=high∧sX u<(g - 1+1)*sX lv:=fun hd=>by
    have hg0:1≤g:=by
     rcases hd with hd | hd
     · omega
     rcases (show g=0∨1≤g by omega) with h | h
     · rw [h,gK] at hd;omega
     exact h
    refine ⟨hg0,by rw [pK,fH];omega,?_⟩
    rw [show g - 1+1=g by omega]
    rcases hd with hd | hd
    · have:=cY hd (bM hVm)
      omega
    exact QE hu hl du dv hhigh hg1 hg2 hd
   have brk:(g - 1)*lg lv (m+1)+(r+lg lv (m+1))=high→sX u<(g - 1+1)*sX lv→4294967296≤r+lg lv (m+1)→1≤g→0≤g - 1∧g - 1<4294967296∧sX u<(g - 1+1)*sX lv∧(g - 1 - 1)*sX lv≤sX u:=fun h h2 h3 h4=>by
    have hlt':=GP h h3 hp1 hbrk
    have hm0:=Ak ⟨(show 0≤g - 1 by omega),hlt'⟩ hV0
    exact ⟨by omega,hlt',h2,GS hu hl du dv hhigh h ⟨by omega,hlt'⟩ sV sV⟩
   by_cases hgb:g<4294967296
   · have hm0:=Ak ⟨hg2,hgb⟩ hV0
     have hm:0≤g*(lv[(((lv.length:Nat):Int) - 2).toNat]?.getD default).v∧g*(lv[(((lv.length:Nat):Int) - 2).toNat]?.getD default).v≤18446744073709551615:=by rw [ev0];omega
     by_cases hcond:r*4294967296+lg u m<g*lg lv m
     · obtain ⟨hg0,hnx,hnu⟩:=dec (.inr hcond)
       have hcond':r*4294967296+(u[(((lv.length:Nat):Int) - 2).toNat]?.getD default).v<g*(lv[(((lv.length:Nat):Int) - 2).toNat]?.getD default).v:=by rw [eu0,ev0];exact hcond
       refine cF 2 [] ?_
       refine eB [0] [] T.mixed [[0]] ?_
       refine gD 1 [] rfl (fA rfl rfl sV) ?_
       refine eJ [[2],[3]] ?_
       refine FO 45 rfl uU ?_
       refine eJ [[4],[5],[6],[7]] ?_
       refine qD 8 [] rfl (qN (α:=U32) T.sl87 rfl rfl sW sV) ?_
       refine qD 9 [0] rfl (dZ T.one166 rfl (kG sW sV 0 rfl rfl)) ?_
       refine qD 10 [] rfl (cD rfl T.u165 rfl sV) ?_
       refine qD 11 [] rfl (nO rfl rfl uU) ?_
       refine eJ [[12]] ?_
       refine qD 13 [] rfl (rY rfl rfl sV) ?_
       refine eJ [[14],[15],[16]] ?_
       refine qD 17 [] rfl (dI T.sl87 rfl rfl sV) ?_
       refine qD 18 [0] rfl (lA 0 T.one166 rfl rfl sV) ?_
       refine qD 19 [] rfl (cD rfl T.u165 rfl sV) ?_
       refine qD 20 [] rfl (Es rfl rfl sV sV) ?_
       refine eJ [[21],[22]] ?_
       refine dV ?_
       refine pY 8 [1] ?_
       refine aN (jF rfl rfl sV) ?_
       refine aJ 9 [] ?_
       refine dP (α:=U32) T.sl87 ?_
       refine fQ 0 T.one166 ?_
       refine aN (cD rfl T.u165 rfl sV) ?_
       refine aN (gF rfl rfl sV) ?_
       refine aJ 6 [] ?_
       refine aN (fA rfl rfl sV) ?_
       refine bJ 3 [] ?_
       refine dN (fun hc1=>?_) fun hc1=>?_
       refine bE 4 [] ?_
       rotate_left
       refine bE 2 [] ?_
       rotate_left
       · refine cZ 7 rfl rfl ?_
         refine sJ (g - 1) ?_
         exact brk hnx hnu (by rw [←ev1];omega) hg0
       refine cZ 8 rfl (show _=Value.int .u64 (r+lg lv (m+1)) by rw [ev1]) ?_
       refine cS ((g - 1,r+lg lv (m+1))) ?_ ?_
       · exact ⟨hnx,by omega,by omega,by omega,by rw [←ev1];omega,hnu⟩
       show (4294967296 - (r+lg lv (m+1))).toNat<(4294967296 - r).toNat
       omega
     have hcond':¬r*4294967296+(u[(((lv.length:Nat):Int) - 2).toNat]?.getD default).v<g*(lv[(((lv.length:Nat):Int) - 2).toNat]?.getD default).v:=by rw [eu0,ev0];exact hcond
     refine cF 2 [] ?_
     refine eB [0] [] T.mixed [[0]] ?_
     refine gD 1 [] rfl (fA rfl rfl sV) ?_
     refine eJ [[2],[3]] ?_
     refine FO 45 rfl uU ?_
     refine eJ [[4],[5],[6],[7]] ?_
     refine qD 8 [] rfl (qN (α:=U32) T.sl87 rfl rfl sW sV) ?_
     refine qD 9 [0] rfl (dZ T.one166 rfl (kG sW sV 0 rfl rfl)) ?_
     refine qD 10 [] rfl (cD rfl T.u165 rfl sV) ?_
     refine qD 11 [] rfl (nO rfl rfl uU) ?_
     refine eJ [[12]] ?_
     refine qD 13 [] rfl (rY rfl rfl sV) ?_
     refine eJ [[14],[15],[16]] ?_
     refine qD 17 [] rfl (dI T.sl87 rfl rfl sV) ?_
     refine qD 18 [0] rfl (lA 0 T.one166 rfl rfl sV) ?_
     refine qD 19 [] rfl (cD rfl T.u165 rfl sV) ?_
     refine qD 20 [] rfl (Es rfl rfl sV sV) ?_
     refine eJ [[21],[22]] ?_
     refine dV ?_
     refine gZ 6 [0] ?_
     refine sJ (g) ?_
     exact ⟨hg2,hgb,hgu,GS hu hl du dv hhigh hg1 ⟨hg2,hgb⟩ sV sV⟩
   obtain ⟨hg0,hnx,hnu⟩:=dec (.inl sV)
   refine cF 2 [] ?_
   refine eB [0] [] T.mixed [[0]] ?_
   refine gD 1 [] rfl (fA rfl rfl sV) ?_
   refine eJ [[2],[3]] ?_
   refine Wg 45 rfl uU ?_
   refine eJ [[4],[5],[6],[7],[8],[9],[10],[11],[12],[13],[14],[15],[16],[17],[18],[19],[20],[21],[22]] ?_
   refine dV ?_
   refine pY 8 [1] ?_
   refine aN (jF rfl rfl sV) ?_
   refine aJ 9 [] ?_
   refine dP (α:=U32) T.sl87 ?_
   refine fQ 0 T.one166 ?_
   refine aN (cD rfl T.u165 rfl sV) ?_
   refine aN (gF rfl rfl sV) ?_
   refine aJ 6 [] ?_
   refine aN (fA rfl rfl sV) ?_
   refine bJ 3 [] ?_
   refine dN (fun hc1=>?_) fun hc1=>?_
   refine bE 4 [] ?_
   rotate_left
   refine bE 2 [] ?_
   rotate_left
   · refine cZ 7 rfl rfl ?_
     refine sJ (g - 1) ?_
     exact brk hnx hnu (by rw [←ev1];omega) hg0
   refine cZ 8 rfl (show _=Value.int .u64 (r+lg lv (m+1)) by rw [ev1]) ?_
   refine cS ((g - 1,r+lg lv (m+1))) ?_ ?_
   · exact ⟨hnx,by omega,by omega,by omega,by rw [←ev1];omega,hnu⟩
   show (4294967296 - (r+lg lv (m+1))).toNat<(4294967296 - r).toNat
   omega
 clear hg1 hg2 hg3 hr1 hr2 hgu
 obtain ⟨hg1,hg2,hg3,hg4⟩:=hk
 refine aK 6 [] ?_
 refine bV 0 rfl (YA _ b p u q junk cw v cv lv gg hv du dv h1 sV ⟨hg1,hg2⟩) fun r1 G1 Ho1 hle1 hp=>?_
 obtain ⟨lw1,lo1,rfl,rfl,rfl,hlo1,hln1,hld1,hlv1⟩:=hp
 have hfew:=vS hld1
 have hnn:=tT hld1
 rcases hlo1 with hlo1 | hlo1
 · subst hlo1
   rw [cI,nB] at hlv1
   refine aN (dK rfl) ?_
   refine aJ 6 [1] ?_
   refine aN (gL rfl T.u166 rfl sV) ?_
   refine aW 5 [] ?_
   refine rF ?_
   refine qJ [0] ?_
   refine ⟨lw1,gg,rfl,rfl,rfl,hg1,hg2,hln1,hld1,hlv1.symm,?_⟩
   rw [jL,fH] at hg3
   omega
 subst hlo1
 rw [fR,←hln1] at hlv1
 have hover:sX u<gg*sX lv:=sV
 have hgp:1≤gg:=by
  rcases (show gg=0∨1≤gg by omega) with h | h
  · rw [h,gK] at hover
    have:=tT du
    omega
  exact h
 refine aN (dK rfl) ?_
 refine aJ 8 [0] ?_
 refine aN (jF rfl rfl sV) ?_
 refine bJ 17 [] ?_
 refine gC (ι:=Nat×Int×List U32) (fun (i,c,z)=>([(89,.int .i64 (i:Int)),(9,.int .u64 c),(88,.int .i64 (u.length:Int)),(7,.int .u64 (gg - 1)),(0,.slice (some (Addr.mk b (List.length p) none)) (List.length u) cw),(1,.slice v (List.length lv) cv),(5,.int .i64 (lv.length:Int)),(4,.int .u32 0)],[(0,some b,tK 166 (p++(z++q)) junk)])) (fun (i,c,z)=>i≤lw1.length∧z.length=lw1.length∧Lims z∧0≤c∧c≤1∧z.drop i=lw1.drop i∧sX (lw1.take i)+sX (lv.take i)=sX (z.take i)+pb i*c) (fun (i,c,z)=>lw1.length - i) ((0,0,lw1)) (⟨aU _,rfl,hld1,by decide,by decide,rfl,by rw [bN,bN,tX,cI]⟩) fun ⟨i,c,z⟩=>fun hk=>?_
 obtain ⟨hi,hzn,hzd,hc0,hc1,hdrop,hval⟩:=hk
 rcases aM i lw1.length with hia | hia
 · have hx:0≤(z[(i:Int).toNat]?.getD default).v∧(z[(i:Int).toNat]?.getD default).v<4294967296:=zN hzd sV
   have ex:(z[(i:Int).toNat]?.getD default).v=lg lw1 i:=Zd hdrop
   rcases aM i lv.length with hib | hib
   · have hy:0≤(lv[(i:Int).toNat]?.getD default).v∧(lv[(i:Int).toNat]?.getD default).v<4294967296:=zN dv hib
     refine aK 22 [1] ?_
     refine aN (dI T.sl87 rfl rfl sV) ?_
     refine aN (lA 0 T.one166 rfl rfl sV) ?_
     refine aN (cD rfl T.u165 rfl sV) ?_
     refine aN (gF rfl rfl sV) ?_
     refine aJ 16 [1] ?_
     refine dP (α:=U32) T.sl87 ?_
     refine fQ 0 T.one166 ?_
     refine aN (cD rfl T.u165 rfl sV) ?_
     refine aN (gF rfl rfl sV) ?_
     refine aJ 8 [] ?_
     refine aN (gR rfl T.u166 rfl) ?_
     refine aN (dI T.sl87 rfl rfl sV) ?_
     refine pZ 0 T.size166 rfl rfl rfl sV ?_
     refine aJ 4 [] ?_
     refine aN (fA rfl rfl sV) ?_
     refine aW 8 [] ?_
     refine iB 0 (tK 166 (p++(z.set i (⟨(c+(z[(i:Int).toNat]?.getD default).v+(lv[(i:Int).toNat]?.getD default).v) % 4294967296⟩:U32)++q)) junk) rfl Oi ?_
     refine cS ((i+1,(c+(z[(i:Int).toNat]?.getD default).v+(lv[(i:Int).toNat]?.getD default).v) / 4294967296,z.set i (⟨(c+(z[(i:Int).toNat]?.getD default).v+(lv[(i:Int).toNat]?.getD default).v) % 4294967296⟩:U32))) ?_ ?_
     · exact ⟨by omega,by rw [aH];exact hzn,tU hzd _ (Db _),by omega,by omega,wF hdrop _,Et sV hval (by rw [ex];rfl)⟩
     show lw1.length - (i+1)<lw1.length - i
     omega
   have hz0:=Bp hib
   refine aK 22 [1] ?_
   refine aN (dI T.sl87 rfl rfl sV) ?_
   refine aN (lA 0 T.one166 rfl rfl sV) ?_
   refine aN (cD rfl T.u165 rfl sV) ?_
   refine aN (gF rfl rfl sV) ?_
   refine aJ 19 [0] ?_
   refine aN (gR rfl T.u166 rfl) ?_
   refine aN (dI T.sl87 rfl rfl sV) ?_
   refine pZ 0 T.size166 rfl rfl rfl sV ?_
   refine aJ 4 [] ?_
   refine aN (fA rfl rfl sV) ?_
   refine aW 8 [] ?_
   refine iB 0 (tK 166 (p++(z.set i (⟨(c+(z[(i:Int).toNat]?.getD default).v) % 4294967296⟩:U32)++q)) junk) rfl Oi ?_
   refine cS ((i+1,(c+(z[(i:Int).toNat]?.getD default).v) / 4294967296,z.set i (⟨(c+(z[(i:Int).toNat]?.getD default).v) % 4294967296⟩:U32))) ?_ ?_
   · exact ⟨by omega,by rw [aH];exact hzn,tU hzd _ (Db _),by omega,by omega,wF hdrop _,Et sV hval (by rw [ex,hz0,dG])⟩
   show lw1.length - (i+1)<lw1.length - i
   omega
 have hii:i=lw1.length:=sV
 subst hii
 have hvl:=vS dv
 have hpl:=Ov (show lv.length≤lw1.length by omega)
 have hback:=GU (g:=gg) (u:=u) (n:=lw1.length) sV hg4 hover rfl hzn sV sV hzd ⟨hc0,hc1⟩ hval
 refine aK 15 [0] ?_
 refine aN (gL rfl T.u166 rfl sV) ?_
 refine aW 4 [] ?_
 refine rF ?_
 refine qJ [0] ?_
 refine ⟨z,gg - 1,rfl,rfl,rfl,by omega,by omega,by omega,hzd,hback,?_⟩
 rw [pK,fH] at hback
 omega
end
theorem xP {s:Nat} (hs:s≤32):∃ Q:Int,((2 ^ s:Nat):Int)*Q=4294967296∧0<Q∧0<((2 ^ s:Nat):Int):=by
 refine ⟨((2 ^ (32 - s):Nat):Int),?_,?_,?_⟩
 · rw [←cJ,←mR,Nat.add_sub_cancel' hs];decide
 · have:0<2 ^ (32 - s):=oB tF
   omega
 have:0<2 ^ s:=oB tF
 omega
theorem CR {X:Int} {s:Nat} (hs:s≤32) (hX:0≤X∧X<4294967296):(X*((2 ^ s:Nat):Int)) % 4294967296 % ((2 ^ s:Nat):Int)=0∧0≤X*((2 ^ s:Nat):Int) / 4294967296∧X*((2 ^ s:Nat):Int) / 4294967296<((2 ^ s:Nat):Int)∧0≤X*((2 ^ s:Nat):Int)∧X*((2 ^ s:Nat):Int)<18446744073709551616:=by
 obtain ⟨Q,h1,h2,h3⟩:=xP hs
 generalize ((2 ^ s:Nat):Int)=P at *
 have hn:=jT hX.1 (bM h3)
 have hlt:=kR hX.2 h3
 have hP:P≤4294967296:=by
  have:=aY (show 1≤Q by omega) (bM h3)
  omega
 refine ⟨?_,mA hn tF,kM tF (by rw [cN P];exact hlt),hn,by omega⟩
 rw [Int.emod_emod_of_dvd _ ⟨Q,h1.symm⟩]
 exact Int.mul_emod_left X P
theorem HA {la r:List U32} {i d:Nat} {P hi lo:Int} (hk:i+d+1<r.length) (hz:lg r (i+d+1)=0) (hv:sX r=pb d*P*sX (la.take i)) (hlo:lo=lg r (i+d)+lg la i*P % 4294967296) (hhi:hi=lg la i*P / 4294967296) :
 sX ((r.set (i+d) ⟨lo⟩).set (i+d+1) ⟨hi⟩)=pb d*P*sX (la.take (i+1)):=by
 rw [zW _ _ _ (by rw [aH];exact hk),zW r _ _ sV,xO sV,hz,uB,hv,hlo,hhi,wP,Wy]
 have h1:=Rd (pb i*pb d) (lg la i*P)
 show pb d*P*sX (la.take i)+pb i*pb d*(lg r (i+d)+lg la i*P % 4294967296 - lg r (i+d))+4294967296*(pb i*pb d)*(lg la i*P / 4294967296 - 0)=_
 have e1:lg r (i+d)+lg la i*P % 4294967296 - lg r (i+d)=lg la i*P % 4294967296:=sV
 have e2:pb d*P*(pb i*lg la i)=pb i*pb d*(lg la i*P):=by
  rw [cN (pb i) (pb d),bR,bR,cN (lg la i) P,dS P]
 rw [e1,nB,bI,e2,←h1]
 omega
theorem Ts {A0 A1:Int} {s:Nat} (hs:s≤32) (h0:0≤A0∧A0<4294967296) (h1:0≤A1∧A1<4294967296):((2 ^ s:Nat):Int)*(((A1*4294967296+A0) / ((2 ^ s:Nat):Int)) % 4294967296)=4294967296*(A1 % ((2 ^ s:Nat):Int))+A0 - A0 % ((2 ^ s:Nat):Int):=by
 obtain ⟨Q,hQ,hQ0,hP⟩:=xP hs
 generalize ((2 ^ s:Nat):Int)=P at *
 have e0:=gG A0 P
 have e1:=gG A1 P
 have n0:=iM A0 (jK hP)
 have l0:=eF A0 hP
 have n1:=iM A1 (jK hP)
 have l1:=eF A1 hP
 have q0:=mA h0.1 (bM hP)
 have q0':A0 / P<Q:=kM hP (by rw [cN];omega)
 generalize A0 % P=r0 at *
 generalize A1 % P=r1 at *
 generalize A0 / P=y0 at *
 generalize A1 / P=y1 at *
 have e2:A1*4294967296+A0=r0+P*(A1*Q+y0):=by
  rw [bI,dS P,hQ];omega
 have e3:(A1*4294967296+A0) / P=A1*Q+y0:=by
  rw [e2,nK _ _ (jK hP),iQ n0 l0,jI]
 have e4:A1*Q+y0=r1*Q+y0+4294967296*y1:=by
  rw [←e1,jL,←hQ,Int.mul_right_comm P Q y1,bR P y1 Q];omega
 have f1:=jT n1 (bM hQ0)
 have f2:=cY (show r1+1≤P by omega) (bM hQ0)
 rw [jL,fH,hQ] at f2
 have e5:(A1*Q+y0) % 4294967296=r1*Q+y0:=by
  rw [e4,Int.add_mul_emod_self_left,Int.emod_eq_of_lt sV sV]
 rw [e3,e5,bI,dS P r1 Q,hQ]
 omega
theorem Tt {m r:List U32} {i:Nat} {P out ρ:Int} (hi:i<r.length) (hv:P*sX (r.take i)+ρ=sX (m.take i)+pb i*(lg m i % P)) (ho:P*out=4294967296*(lg m (i+1) % P)+lg m i - lg m i % P) :
 P*sX ((r.set i ⟨out⟩).take (i+1))+ρ=sX (m.take (i+1))+pb (i+1)*(lg m (i+1) % P):=by
 rw [uB (r.set i _),uB m,Dk hi,jP (aG i),wP,bI,dS P,ho,iU,bI,dS (pb i) 4294967296]
 rw [bR]
 omega
theorem NA {m r:List U32} {P:Int} (hP:0<P) (hn:r.length=m.length) (hv:P*sX (r.take m.length)+lg m 0 % P=sX (m.take m.length)+pb m.length*(lg m m.length % P)):sX r=sX m / P:=by
 rw [tH sV,tH (aG _),Bp (aG _),Int.zero_emod,cI,dG] at hv
 rw [←hv,Int.add_comm,nK _ _ (jK hP),iQ (iM _ (jK hP)) (eF _ hP),jI]
theorem HB {x y:Int} {s:Nat} (hs:s≤32) (hx:x<((2 ^ s:Nat):Int)) (h0:0≤x) (hy:0≤y∧y<4294967296) (hm:y % ((2 ^ s:Nat):Int)=0):0≤x+y∧x+y<4294967296:=by
 obtain ⟨Q,hQ,hQ0,hP⟩:=xP hs
 generalize ((2 ^ s:Nat):Int)=P at *
 refine ⟨by omega,?_⟩
 have h1:=gG y P
 rw [hm,jI] at h1
 have h2:y / P<Q:=kM hP (by rw [cN];omega)
 have h3:=aY (show y / P+1≤Q by omega) (bM hP)
 rw [bI,fR,hQ,h1] at h3
 omega
section
attribute [local irreducible] sX pb tQ
theorem TE (G:Imm) (a:Option Addr) (ca:Nat) (la:List U32) (d s:Nat) (ha:Arr G a la) (da:Lims la) (h1:la.length≤1073741824) (hs:s<32) (hd:d≤1000) :
 Does Tryz.prog 110 [.slice a la.length ca,.int .i64 ((32*d+s:Nat):Int)] G [] (fun v G' Ho=>∃ r,v=.tuple #[r,.int .i64 0]∧Nat32 G' r (pb d*((2 ^ s:Nat):Int)*sX la) (la.length+d+1)∧Ho=[]):=by
 refine D0 Tryz.func110 Tryz.ntmps110 fun w=>?_
 have ed:((32*d+s:Nat):Int) / 32=(d:Int):=sV
 have es:((32*d+s:Nat):Int) % 32=(s:Int):=sV
 have hP:0<((2 ^ s:Nat):Int):=(xP sV).choose_spec.2.2
 refine aK 31 [0,0] ?_
 refine aN (lX rfl rfl sV) ?_
 refine aA 2 [] ?_
 refine iC (α:=U32) 0 rfl T.sl87 T.el166 rfl rfl sV sV fun b1=>?_
 refine aJ 6 [] ?_
 refine aN (jO rfl rfl sV) ?_
 refine bJ 12 [] ?_
 obtain ⟨N,hN⟩:∃ N,N=la.length+d+1:=⟨_,rfl⟩
 have hM:((la.length:Int)+((32*d+s:Nat):Int) / 32+1).toNat=N:=sV
 rw [hM]
 have hown:∀ r:List U32,r.length=N→OwnA (some ⟨b1,0,none⟩) N r []:=fun r hr=>.inr ⟨b1,rfl,by rw [hr];rfl,by omega,by simp only [maxLen];omega⟩
 refine jE 6 rfl (show _=Value.slice (some ⟨b1,0,none⟩) (List.replicate N (default:U32)).length N by rw [aE]) ?_
 refine jE 7 rfl (show _=Value.int .i64 (s:Int) by rw [es]) ?_
 refine gC (ι:=Nat×List U32) (fun (i,r)=>([(26,.int .i64 (i:Int)),(6,.slice (some ⟨b1,0,none⟩) r.length N),(7,.int .i64 (↑s:Int)),(25,.int .i64 (la.length:Int)),(24,.slice a (List.length la) ca),(5,.int .i64 0),(4,.slice none 0 0),(1,.int .i64 (↑(32*d+s):Int))],[(0,some b1,tK 166 r [])])) (fun (i,r)=>i≤la.length∧r.length=N∧Lims r∧sX r=pb d*((2 ^ s:Nat):Int)*sX (la.take i)∧lg r (i+d)<((2 ^ s:Nat):Int)∧∀ k,i+d<k→lg r k=0) (fun (i,r)=>la.length - i) ((0,List.replicate N (default:U32))) (⟨aU _,aE,nR N,by rw [bN,tX,cI];exact yY N,by rw [Ew];exact hP,fun k _=>Ew N k⟩) fun ⟨i,r⟩=>fun hk=>?_
 obtain ⟨hi,hrN,hdr,hv,hlow,hz⟩:=hk
 have hor:=hown r hrN
 rcases aM i la.length with hia | hia
 · have hx:0≤(la[(i:Int).toNat]?.getD default).v∧(la[(i:Int).toNat]?.getD default).v<4294967296:=zN da hia
   have ekk:((i:Int)+((32*d+s:Nat):Int) / 32).toNat=i+d:=sV
   have hpt:=CR (s:=s) sV hx
   refine aK 14 [1] ?_
   refine dP (α:=U32) T.sl87 ?_
   refine fQ 0 T.one166 ?_
   refine aJ 7 [] ?_
   refine aN (cD rfl T.u165 rfl sV) ?_
   refine aA 1 [] ?_
   refine aN (MS rfl rfl sV sV) ?_
   refine aJ 8 [] ?_
   refine aN (lX rfl rfl sV) ?_
   refine aA 1 [] ?_
   refine fW (α:=U32) T.sl87 ?_
   refine nY 0 0 T.one166 ?_
   refine aA 1 [] ?_
   refine aN (gR rfl T.u166 rfl) ?_
   refine aN (Gq rfl rfl) ?_
   refine fW (α:=U32) T.sl87 ?_
   refine eX (z:=_) 0 T.size166 rfl rfl rfl sW sV rfl fun ho1=>?_
   refine aJ 6 [] ?_
   refine aN (lX rfl rfl sV) ?_
   refine aA 2 [] ?_
   refine fW (α:=U32) T.sl87 ?_
   obtain ⟨r1,hr1⟩:∃ r1,r1=r.set (i+d) (⟨lg r (i+d)+(la[(i:Int).toNat]?.getD default).v*((2 ^ s:Nat):Int) % 4294967296⟩:U32):=⟨_,rfl⟩
   have hk0:=vG hdr (i+d)
   have hlo:bits BinOp.or IntKind.u32 (r[((i:Int)+((32*d+s:Nat):Int) / 32).toNat]?.getD default).v ((la[(i:Int).toNat]?.getD default).v*((2 ^ s:Nat):Int) % 4294967296)=lg r (i+d)+(la[(i:Int).toNat]?.getD default).v*((2 ^ s:Nat):Int) % 4294967296:=by
    rw [ekk]
    exact Iq _ _ s ⟨hk0.1,hlow⟩ (Db _) sV hpt.1
   have hr1N:r1.length=N:=by rw [hr1,aH];exact hrN
   have hsum:=HB (s:=s) sV hlow hk0.1 (Db _) hpt.1
   have hd1:Lims r1:=by rw [hr1];exact tU hdr _ hsum
   have hz1:lg r1 (i+d+1)=0:=by rw [hr1,xO sV];exact hz _ sV
   have hor1:=hown r1 hr1N
   refine oV 0 (tK 166 r1 []) rfl ?_ ?_
   · show tK 166 (r.set ((i:Int)+((32*d+s:Nat):Int) / 32).toNat ⟨bits BinOp.or IntKind.u32 (r[((i:Int)+((32*d+s:Nat):Int) / 32).toNat]?.getD default).v ((la[(i:Int).toNat]?.getD default).v*((2 ^ s:Nat):Int) % 4294967296)⟩) []=_
     rw [hlo,ekk,hr1]
   skip
   refine aN (El (m:=(i:Int)+((32*d+s:Nat):Int) / 32+1) (c:=N) (xs:=r1) (junk:=[]) 0 0 T.one166 rfl rfl hor1 sV rfl rfl) ?_
   refine aA 1 [] ?_
   refine aN (fA rfl rfl sV) ?_
   refine aN (gL rfl T.u166 rfl sV) ?_
   refine aN (Gq rfl rfl) ?_
   refine fW (α:=U32) T.sl87 ?_
   refine eX (z:=_) 0 T.size166 rfl rfl rfl sW sV rfl fun ho2=>?_
   refine aW 7 [] ?_
   have hhi:bits BinOp.or IntKind.u32 (r1[((i:Int)+((32*d+s:Nat):Int) / 32+1).toNat]?.getD default).v ((la[(i:Int).toNat]?.getD default).v*((2 ^ s:Nat):Int) / 4294967296)=(la[(i:Int).toNat]?.getD default).v*((2 ^ s:Nat):Int) / 4294967296:=by
    rw [show ((i:Int)+((32*d+s:Nat):Int) / 32+1).toNat=i+d+1 by omega,show (r1[i+d+1]?.getD default).v=0 by simpa only [lg,aF] using hz1]
    rw [Iq 0 _ 0 tF sV tF (Int.emod_one _),jI]
   obtain ⟨r2,hr2⟩:∃ r2,r2=r1.set (i+d+1) (⟨(la[(i:Int).toNat]?.getD default).v*((2 ^ s:Nat):Int) / 4294967296⟩:U32):=⟨_,rfl⟩
   refine iB 0 (tK 166 r2 []) rfl ?_ ?_
   · show tK 166 (r1.set ((i:Int)+((32*d+s:Nat):Int) / 32+1).toNat ⟨bits BinOp.or IntKind.u32 (r1[((i:Int)+((32*d+s:Nat):Int) / 32+1).toNat]?.getD default).v ((la[(i:Int).toNat]?.getD default).v*((2 ^ s:Nat):Int) / 4294967296)⟩) []=_
     rw [hhi,show ((i:Int)+((32*d+s:Nat):Int) / 32+1).toNat=i+d+1 by omega,hr2]
   have hr2N:r2.length=N:=by rw [hr2,aH];exact hr1N
   refine cZ 6 rfl (show _=Value.slice (some ⟨b1,0,none⟩) r2.length N by rw [hr2N,hrN]) ?_
   have hlt32:=(xP (s:=s) sV)
   refine cS ((i+1,r2)) ?_ ?_
   · refine ⟨by omega,hr2N,by rw [hr2];exact tU hd1 _ ⟨hpt.2.1,by omega⟩,?_,?_,?_⟩
     · rw [hr2,hr1]
       exact HA sV (hz _ sV) hv rfl rfl
     · rw [show i+1+d=i+d+1 by omega,hr2,Dk sV]
       exact hpt.2.2.1
     intro k hk
     rw [hr2,xO sV,hr1,xO sV]
     exact hz k sV
   show la.length - (i+1)<la.length - i
   omega
 rw [tH hia] at hv
 refine aK 15 [0] ?_
 refine cR 0 rfl hor fun G9 hle9 hA=>?_
 refine bV 1 rfl (Jb _ _ _ _ sW sV uU) fun v1 G1 Ho1 hle1 hp=>?_
 obtain ⟨ta1,tm1,rfl,hta1,hte1,htr1,htl1,rfl,rfl⟩:=hp
 refine aW 5 [] ?_
 refine eG ?_
 exact ⟨_,rfl,oA hta1 hte1 htr1 hdr hv sV,rfl⟩
theorem YC (G:Imm) (a:Option Addr) (ca:Nat) (la:List U32) (s:Nat) (ha:Arr G a la) (da:Lims la) (h1:la.length≤1073741824) (hca:la.length≤ca) (hs:s<32) :
 Does Tryz.prog 204 [.slice a la.length ca,.int .i64 (s:Int)] G [] (fun v G' Ho=>∃ r,v=.tuple #[r,.int .i64 0]∧Nat32 G' r (sX la / ((2 ^ s:Nat):Int)) la.length∧Ho=[]):=by
 refine D0 Tryz.func204 Tryz.ntmps204 fun w=>?_
 have ed:(s:Int) / 32=0:=sV
 have es:(s:Int) % 32=(s:Int):=sV
 have hP:0<((2 ^ s:Nat):Int):=(xP sV).choose_spec.2.2
 refine aK 19 [0] ?_
 refine bV 0 rfl (Jb _ _ _ _ sW sV uU) fun v1 G1 Ho1 hle1 hp=>?_
 obtain ⟨ta1,tm1,rfl,hta1,hte1,htr1,htl1,rfl,rfl⟩:=hp
 refine aJ 7 [] ?_
 refine aN (lX rfl rfl sV) ?_
 refine bJ 5 [] ?_
 refine dN (fun hc1=>?_) fun hc1=>?_
 refine bE 8 [] ?_
 refine eG ?_
 rotate_left
 refine aK 6 [] ?_
 refine aN (lX rfl rfl sV) ?_
 refine aN (MF T.sl87 rfl rfl sV sV) ?_
 refine aJ 6 [] ?_
 refine aN (jO rfl rfl sV) ?_
 refine aJ 7 [] ?_
 refine iC (α:=U32) 0 rfl T.sl87 T.el166 rfl rfl sV sV fun b1=>?_
 refine bJ 12 [] ?_
 rotate_left
 · have hz:tm1=[]:=cB sV
   have hv0:sX la=0:=by rw [←wE hte1 htr1,hz,tX]
   refine ⟨_,rfl,⟨none,[],rfl,pP _,Lims.nil,Top.nil,?_,aU _⟩,rfl⟩
   rw [hv0,Int.zero_ediv,tX]
 have dm:=vX hte1 da
 have hta2:Arr G1 (subA ta1 tm1.length 0 1) tm1:=by
  have h2:=Lc (c:=tm1.length) (sz:=1) hta1 tm1.length
  rw [tH (aG _)] at h2
  exact h2
 obtain ⟨tb,htb⟩:∃ tb,tb=subA ta1 tm1.length 0 1:=⟨_,rfl⟩
 rw [←htb] at hta2
 obtain ⟨N,hN⟩:∃ N,N=tm1.length:=⟨_,rfl⟩
 have hM:(((tm1.length - ((s:Int) / 32).toNat:Nat):Int)).toNat=N:=sV
 rw [hM]
 have hown:∀ r:List U32,r.length=N→OwnA (some ⟨b1,0,none⟩) N r []:=fun r hr=>.inr ⟨b1,rfl,by rw [hr];rfl,by omega,by simp only [maxLen];omega⟩
 refine jE 7 rfl (show _=Value.slice (some ⟨b1,0,none⟩) (List.replicate N (default:U32)).length N by rw [aE]) ?_
 refine jE 6 rfl (show _=Value.int .i64 (s:Int) by rw [es]) ?_
 refine jE 0 rfl (show _=Value.slice tb tm1.length tm1.length by rw [ed,htb];rfl) ?_
 refine jE 29 rfl (show _=Value.slice tb tm1.length tm1.length by rw [ed,htb];rfl) ?_
 refine jE 30 rfl (show _=Value.int .i64 (tm1.length:Int) by rw [ed];rfl) ?_
 refine gC (ι:=Nat×List U32) (fun (i,r)=>([(31,.int .i64 (i:Int)),(7,.slice (some ⟨b1,0,none⟩) r.length N),(30,.int .i64 (tm1.length:Int)),(29,.slice tb (List.length tm1) (List.length tm1)),(0,.slice tb (List.length tm1) (List.length tm1)),(6,.int .i64 (↑s:Int)),(5,.int .i64 0),(4,.slice none 0 0)],[(0,some b1,tK 166 r [])])) (fun (i,r)=>i≤tm1.length∧r.length=N∧Lims r∧((2 ^ s:Nat):Int)*sX (r.take i)+lg tm1 0 % ((2 ^ s:Nat):Int)=sX (tm1.take i)+pb i*(lg tm1 i % ((2 ^ s:Nat):Int))) (fun (i,r)=>tm1.length - i) ((0,List.replicate N (default:U32))) (⟨aU _,aE,nR N,by rw [bN,bN,tX,cI,Jj,fH]⟩) fun ⟨i,r⟩=>fun hk=>?_
 obtain ⟨hi,hrN,hdr,hv⟩:=hk
 have hor:=hown r hrN
 rcases aM i tm1.length with hia | hia
 · have hx:0≤(tm1[(i:Int).toNat]?.getD default).v∧(tm1[(i:Int).toNat]?.getD default).v<4294967296:=zN dm hia
   have ex:(tm1[(i:Int).toNat]?.getD default).v=lg tm1 i:=rfl
   have ex1:(tm1[((i:Int)+1).toNat]?.getD default).v=lg tm1 (i+1):=by unfold lg;rw [show ((i:Int)+1).toNat=((i+1:Nat):Int).toNat by omega]
   have hy:0≤(tm1[((i:Int)+1).toNat]?.getD default).v∧(tm1[((i:Int)+1).toNat]?.getD default).v<4294967296:=by rw [ex1];exact vG dm _
   by_cases hib:i+1<tm1.length
   · refine aK 14 [1] ?_
     refine dP (α:=U32) T.sl87 ?_
     refine fQ 0 T.one166 ?_
     refine aJ 7 [] ?_
     refine aN (cD rfl T.u165 rfl sV) ?_
     refine aJ 19 [1] ?_
     refine dP (α:=U32) T.sl87 ?_
     refine eK rfl (dZ T.one166 rfl (kG sW sV 0 rfl rfl)) ?_
     refine aN (cD rfl T.u165 rfl sV) ?_
     refine aN (rY rfl rfl sV) ?_
     refine aN (CN rfl rfl sV sV) ?_
     refine aJ 8 [] ?_
     refine aN (Zb rfl rfl sV sV) ?_
     refine aN (gR rfl T.u166 rfl) ?_
     refine eK rfl (lS (α:=U32) T.sl87 rfl rfl sW sV) ?_
     refine eX (z:=_) 0 T.size166 rfl rfl rfl sW sV rfl fun ho1=>?_
     refine aW 7 [] ?_
     obtain ⟨out,hout⟩:∃ out,out=((tm1[((i:Int)+1).toNat]?.getD default).v*4294967296+(tm1[(i:Int).toNat]?.getD default).v) / ((2 ^ s:Nat):Int) % 4294967296:=⟨_,rfl⟩
     have hpart:((2 ^ s:Nat):Int)*out=4294967296*(lg tm1 (i+1) % ((2 ^ s:Nat):Int))+lg tm1 i - lg tm1 i % ((2 ^ s:Nat):Int):=by
      rw [hout,ex,ex1];exact Ts sV (vG dm i) (vG dm (i+1))
     refine iB 0 (tK 166 (r.set i (⟨out⟩:U32)) []) rfl (by rw [hout,aF]) ?_
     refine cZ 7 rfl (show _=Value.slice (some ⟨b1,0,none⟩) (r.set i (⟨out⟩:U32)).length N by rw [aH]) ?_
     refine cS ((i+1,r.set i (⟨out⟩:U32))) ?_ ?_
     · exact ⟨by omega,by rw [aH];exact hrN,tU hdr _ (by rw [hout];exact Db _),Tt sV hv hpart⟩
     show tm1.length - (i+1)<tm1.length - i
     omega
   have hz0:=Bp (show tm1.length≤i+1 by omega)
   refine aK 14 [1] ?_
   refine dP (α:=U32) T.sl87 ?_
   refine fQ 0 T.one166 ?_
   refine aJ 7 [] ?_
   refine aN (cD rfl T.u165 rfl sV) ?_
   refine aJ 21 [0] ?_
   refine aN (Zb rfl rfl sV sV) ?_
   refine aN (gR rfl T.u166 rfl) ?_
   refine fW (α:=U32) T.sl87 ?_
   refine eX (z:=_) 0 T.size166 rfl rfl rfl sW sV rfl fun ho1=>?_
   refine aW 7 [] ?_
   obtain ⟨out,hout⟩:∃ out,out=(tm1[(i:Int).toNat]?.getD default).v / ((2 ^ s:Nat):Int) % 4294967296:=⟨_,rfl⟩
   have hpart:((2 ^ s:Nat):Int)*out=4294967296*(lg tm1 (i+1) % ((2 ^ s:Nat):Int))+lg tm1 i - lg tm1 i % ((2 ^ s:Nat):Int):=by
    rw [hout,show (tm1[(i:Int).toNat]?.getD default).v=lg tm1 (i+1)*4294967296+lg tm1 i by rw [hz0,gK,jI];rfl];exact Ts sV (vG dm i) (vG dm (i+1))
   refine iB 0 (tK 166 (r.set i (⟨out⟩:U32)) []) rfl (by rw [hout,aF]) ?_
   refine cZ 7 rfl (show _=Value.slice (some ⟨b1,0,none⟩) (r.set i (⟨out⟩:U32)).length N by rw [aH]) ?_
   refine cS ((i+1,r.set i (⟨out⟩:U32))) ?_ ?_
   · exact ⟨by omega,by rw [aH];exact hrN,tU hdr _ (by rw [hout];exact Db _),Tt sV hv hpart⟩
   show tm1.length - (i+1)<tm1.length - i
   omega
 have hii:i=tm1.length:=sV
 subst hii
 have hval:=NA hP sV hv
 refine aK 15 [0] ?_
 refine cR 0 rfl hor fun G9 hle9 hA=>?_
 refine bV 1 rfl (Jb _ _ _ _ sW sV uU) fun v2 G2 Ho2 hle2 hp=>?_
 obtain ⟨ta2,tm2,rfl,hta2,hte2,htr2,htl2,rfl,rfl⟩:=hp
 refine aW 5 [] ?_
 refine eG ?_
 rw [wE hte1 htr1] at hval
 exact ⟨_,rfl,oA hta2 hte2 htr2 hdr hval sV,rfl⟩
end
end Go.Proofs.YtngphgeghfdjbaaGreatDoor
namespace Go.Sl
open Go
section
variable {P:Program} {ops:Array Oper} {rest:List Oper} {B:Bs} {e:Env} {D:List Deferred} {H:Hp} {G:Imm} {K:Act→World→Prop}
 {ty:TypeId} {pos:String} {after:Array Edge} {d:Nat} {α:Type} [Cells α]
theorem Nt {w:World} (hw:HoldH H G w) {T E bytes:Nat} {zs:List Value} (hT:tJ P T E (Cells.sz α)) (hE:ElemOf P E (Cells.sz α) bytes zs) {a ad:Option Addr} {c2:Nat} {xs ys:List α}
 (hA:Src H G a xs) (hx0:0<xs.length) (hsrc:Src H G ad ys) (hy0:0<ys.length) (hb:(xs.length+ys.length)*bytes≤140737488355328) (hl:xs.length+ys.length≤maxLen) :
 ∃ c' junk' w',(Builtin.append_ #[T,T] ty #[.slice a xs.length xs.length,.slice ad ys.length c2]).run P w=.ok (.slice (some ⟨w.heap.size,0,none⟩) (xs++ys).length c') w'∧OwnA (some ⟨w.heap.size,0,none⟩) c' (xs++ys) junk'∧
  Upd (fun _=>False) w w'∧w'.heap.size=w.heap.size+1∧w'.heap[w.heap.size]?=some (tK E (xs++ys) junk'):=by
 obtain ⟨i,z,hi,hz1,hz2,hs,hby,hzl,hsz⟩:=hE
 have hm63:xs.length+ys.length≤9223372036854775807:=by simp only [maxLen] at hl;omega
 have hlen:(xs++ys).length=xs.length+ys.length:=aI
 have hyl:(tM ys).length=ys.length*i.size:=by rw [tI,hs]
 have hxl:(tM xs).length=xs.length*i.size:=by rw [tI,hs]
 have junkLen:∀ k,(Builtin.zeroCells z.cells k).toList.length=k*Cells.sz α:=fun k=>by
  rw [lQ,size_zeroCells,hz2];simp [hzl]
 have fresh:∀ old,old<xs.length+ys.length→∃ junk',OwnA (some ⟨w.heap.size,0,none⟩) (grownCap w (xs.length+ys.length) old E) (xs++ys) junk'∧
  (w.drew.alloc (.cells ((tM xs).toArray++(tM ys).toArray++Builtin.zeroCells z.cells (grownCap w (xs.length+ys.length) old E - (xs.length+ys.length))) E)).heap[w.heap.size]?=some (tK E (xs++ys) junk'):=fun old hold=>by
  have hge:=grownCap_ge w (xs.length+ys.length) old E
  have hcm:grownCap w (xs.length+ys.length) old E≤maxLen:=rL w _ old E hl
  refine ⟨(Builtin.zeroCells z.cells (grownCap w (xs.length+ys.length) old E - (xs.length+ys.length))).toList,.inr ⟨_,rfl,?_,by rw [hlen];exact hge,hcm⟩,?_⟩
  · rw [junkLen,hlen,←eN];congr 1;omega
  rw [show w.heap.size=w.drew.heap.size from rfl,uA]
  congr 1
  simp [tK,vP]
 have hupd:∀ o,Upd (fun _=>False) w (w.drew.alloc o):=fun o=>(kU _ w).drew.alloc o
 rcases hA w hw with ⟨_,h0⟩ | ⟨ax,rfl,hcell⟩
 · rw [h0] at hx0;simp at hx0
 rcases hsrc w hw with ⟨_,h0⟩ | ⟨src,rfl,hsr⟩
 · rw [h0] at hy0;simp at hy0
 have hr:=run_append_grow (P:=P) w T ty E i z hT.1 hi hz1 ax xs.length xs.length (tM xs) hxl hcell src ys.length c2 (tM ys) hyl hsr sV sV (growslice_fits sV (by rw [hby];exact hb))
 obtain ⟨junk',h1,h2⟩:=fresh xs.length sV
 exact ⟨_,junk',_,by rw [hlen];exact hr,h1,hupd _,by simp,h2⟩
theorem Re {s x:Operand} {T E bytes:Nat} {zs:List Value} {a ad:Option Addr} {c2:Nat} {xs ys:List α} (t:Nat) (hn:Nat.ble (d+1) B.n=true) (hT:tJ P T E (Cells.sz α)) (hE:ElemOf P E (Cells.sz α) bytes zs)
 (hs:e.ev s=some (.slice a xs.length xs.length)) (hx:e.ev x=some (.slice ad ys.length c2)) (hA:Src H G a xs) (hx0:0<xs.length) (hsrc:Src H G ad ys) (hy0:0<ys.length)
 (hb:(xs.length+ys.length)*bytes≤140737488355328) (hl:xs.length+ys.length≤maxLen)
 (h:∀ b c' junk',OwnA (some ⟨b,0,none⟩) c' (xs++ys) junk'→Wl P ops rest B ⟨(d,.slice (some ⟨b,0,none⟩) (xs++ys).length c') :: e,D,(t,some b,tK E (xs++ys) junk') :: H,G⟩ K) :
 Wl P ops (⟨some d,.call { callee:=.builtin .append,args:=#[s,x],argTypes:=#[T,T] },ty,pos,after,none⟩ :: rest) B ⟨e,D,H,G⟩ K:=by
 intro ac w hh
 obtain ⟨c',junk',w',hrun,ho',hu,hsz,hbk⟩:=Nt (c2:=c2) (ty:=ty) hh.mem hT hE hA hx0 hsrc hy0 hb hl
 unfold tN
 rw [aR (by simp [Region.wanted])]
 unfold xN
 have hex:(execOp ac.eval ⟨some d,.call { callee:=.builtin .append,args:=#[s,x],argTypes:=#[T,T] },ty,pos,after,none⟩).run P w=.ok (.value (.slice (some ⟨w.heap.size,0,none⟩) (xs++ys).length c')) w':=by
  simp only [execOp,resolve,invoke,builtin,bG,bL,aP,lO,bY,jH,hh.eval hs,hh.eval hx,hrun]
 rw [hex]
 exact h _ c' junk' ho' _ _ (Hold.put (hh.ownNew t hu hsz hbk) hn _)
end
end Go.Sl
namespace Go.Proofs.YtngphgeghfdjbaaGreatDoor
open Go Go.Sl
theorem yP {l:List U32} (h:Lims l) (k:Nat):Lims (l.drop k):=fun d hd=>h d (List.mem_of_mem_drop hd)
theorem Dc:∀ (f x:Nat),0<x→x<2 ^ f→1≤Lib.bitLenAux f x∧Lib.bitLenAux f x≤f∧2 ^ (Lib.bitLenAux f x - 1)≤x∧x<2 ^ Lib.bitLenAux f x
 | 0,x,h0,h1=>by simp at h1;omega
 | f+1,x,h0,h1=>by
   unfold Lib.bitLenAux
   rw [aL (by omega)]
   by_cases h2:x / 2=0
   · have hx:x=1:=sV
     subst hx
     have:Lib.bitLenAux f (1 / 2)=0:=by cases f <;> simp [Lib.bitLenAux]
     rw [this];simp
   have ih:=Dc f (x / 2) sV (by rw [jY] at h1;omega)
   obtain ⟨a1,a2,a3,a4⟩:=ih
   refine ⟨by omega,by omega,?_,?_⟩
   · rw [jR,←mF a1,jY];omega
   rw [Nat.add_comm 1,jY];omega
theorem CS {x:Int} (h0:0<x) (h1:x<4294967296):∃ s:Nat,s<32∧32 - (Lib.bitLen x.toNat:Int)=(s:Int)∧2147483648≤((2 ^ s:Nat):Int)*x∧((2 ^ s:Nat):Int)*(x+1)≤4294967296:=by
 have hb:=Dc 64 x.toNat sV (by have:(2:Nat) ^ 64=18446744073709551616:=tF;omega)
 have hle:=Lib.bitLen_le x.toNat 32 sV sV
 unfold Lib.bitLen at hle ⊢
 generalize Lib.bitLenAux 64 x.toNat=L at *
 obtain ⟨b1,b2,b3,b4⟩:=hb
 refine ⟨32 - L,by omega,by omega,?_,?_⟩
 · have e:2 ^ (32 - L)*2 ^ (L - 1)=2147483648:=by
    rw [←mR,show 32 - L+(L - 1)=31 by omega]
   have h2:=iO (2 ^ (32 - L)) b3
   rw [e] at h2
   have h3:((2 ^ (32 - L):Nat):Int)*x=((2 ^ (32 - L)*x.toNat:Nat):Int):=by rw [cJ,cP sV]
   rw [h3];omega
 have e:2 ^ (32 - L)*2 ^ L=4294967296:=by
  rw [←mR,show 32 - L+L=32 by omega]
 have h2:=iO (2 ^ (32 - L)) (show x.toNat+1≤2 ^ L by omega)
 rw [e] at h2
 have h3:((2 ^ (32 - L):Nat):Int)*(x+1)=((2 ^ (32 - L)*(x.toNat+1):Nat):Int):=by rw [cJ,jG,cP sV];rfl
 rw [h3];omega
theorem HC {b v:List U32} {m:Nat} {P:Int} (hP:0<P) (hb:b.length=m+2) (db:Lims b) (dv:Lims v) (tv:Top v) (hx:2147483648≤P*lg b (m+1)) (hx2:P*(lg b (m+1)+1)≤4294967296) (hv:sX v=P*sX b):v.length=m+2∧2147483648≤lg v (m+1):=by
 have e1:=uB b (m+1)
 rw [tH (show b.length≤m+1+1 by omega)] at e1
 have h1:=vS (db.take (m+1))
 have h2:=tT (db.take (m+1))
 rw [bC,dC sV] at h1
 have hp:=xC (m+1)
 have up:sX v<pb (m+2):=by
  have f1:=Int.mul_lt_mul_of_pos_left (show sX b<pb (m+1)*(lg b (m+1)+1) by rw [bI,fR];omega) hP
  have f2:=aY hx2 (bM hp)
  rw [hv,show m+2=m+1+1 by omega,wP,cN 4294967296]
  rw [dS P] at f1
  omega
 have low:pb (m+1)*2147483648≤sX v:=by
  have f1:=aY (show pb (m+1)*lg b (m+1)≤sX b by omega) (bM hP)
  have f2:=aY hx (bM hp)
  rw [hv]
  rw [dS P] at f1
  omega
 have l1:=Tk dv tv up
 have l2:m+2≤v.length:=by
  rcases aM v.length (m+2) with h | h
  · have f1:=vS dv
    have f2:=Ov (show v.length≤m+1 by omega)
    omega
  exact h
 have hl:v.length=m+2:=sV
 refine ⟨hl,?_⟩
 have e2:=uB v (m+1)
 rw [tH (show v.length≤m+1+1 by omega)] at e2
 have h3:=vS (dv.take (m+1))
 rw [bC,dC sV] at h3
 rcases Int.lt_or_le (lg v (m+1)) 2147483648 with h | h
 · have f1:=aY (show lg v (m+1)+1≤2147483648 by omega) (bM hp)
   rw [bI,fR] at f1
   omega
 exact h
theorem Tu {x y:Int} (h:tQ x y<0):x<y:=by
 unfold tQ at h
 split at h
 · assumption
 split at h <;> omega
theorem HD (R:List U32) (i n:Nat):R=R.take i++((R.drop i).take n++R.drop (i+n)):=by
 rw [←lE,dA,dA]
theorem CT {u v:List U32} (du:Lims u) (dv:Lims v) (tv:Top v) (h0:0<v.length) (hl:v.length≤u.length):sX ((u++[(default:U32)]).drop (u.length+1 - v.length))<sX v:=by
 rw [eO sV,uN,Bn]
 have h1:=vS (yP du (u.length+1 - v.length))
 rw [eC,show u.length - (u.length+1 - v.length)=v.length - 1 by omega] at h1
 have h2:=Jk dv tv (fun e=>by rw [e] at h0;simp at h0)
 show sX (u.drop (u.length+1 - v.length))+pb _*0<_
 rw [cI];omega
theorem HE {R v:List U32} {i n:Nat} (dR:Lims R) (dv:Lims v) (hi:i<R.length) (hn:v.length=n) (hl:i+(n+1)≤R.length) (h:sX (R.drop (i+1))<sX v) :
 sX ((R.drop i).take (n+1))<4294967296*sX v∧sX (R.drop (i+(n+1)))=0:=by
 have e1:=wD hi
 have e2:=yZ (R.drop i) (show n+1≤(R.drop i).length by rw [eC];omega)
 rw [lE] at e2
 have h1:=vG dR i
 have h2:=vS dv
 rw [hn] at h2
 have h3:=tT (yP dR (i+(n+1)))
 have h4:=tT ((yP dR i).take (n+1))
 have h5:=tT (yP dR (i+1))
 have hp:=xC (n+1)
 have h6:sX (R.drop (i+(n+1)))=0:=by
  rcases (show sX (R.drop (i+(n+1)))=0∨1≤sX (R.drop (i+(n+1))) by omega) with hz | hz
  · exact hz
  have f1:=aY hz (bM hp)
  rw [fR] at f1
  have f2:=wP n
  omega
 refine ⟨?_,h6⟩
 rw [h6,cI] at e2
 omega
theorem NB {a b q R P:Int} (hP:0<P) (h:P*a=q*(P*b)+R) (h0:0≤R) (h1:R<P*b):R / P=a % b∧q=a / b∧0<b:=by
 have e:R=P*(a - q*b):=by rw [iU,dS P q];omega
 have e1:R / P=a - q*b:=by rw [e,Int.mul_ediv_cancel_left _ (jK hP)]
 have l0:0≤a - q*b:=by
  rw [e] at h0
  exact Int.le_of_mul_le_mul_left (by rw [cI];exact h0) hP
 have l1:a - q*b<b:=by
  rw [e] at h1
  exact pE h1 (bM hP)
 have hb:0<b:=sV
 have:=(qS (a:=a) (b:=b) (r:=a - q*b) (q:=q) hb).2 ⟨by rw [cN b q];omega,l0,l1⟩
 exact ⟨e1.trans this.2.symm,this.1.symm,hb⟩
theorem Br {G:Imm} {v:Value} {z:Int} {n:Nat} {lb:List U32} (h:Nat32 G v z n) (db:Lims lb) (hz:z<sX lb):Nat32 G v z lb.length:=by
 obtain ⟨b,m,h1,h2,h3,h4,h5,h6⟩:=h
 refine ⟨b,m,h1,h2,h3,h4,h5,?_⟩
 rcases aM lb.length m.length with h7 | h7
 · have:=yC db h3 h4 h7;omega
 exact h7
theorem YD (G:Imm) (x:Int) (h0:0≤x) (h1:x≤4294967295):Does Tryz.prog 202 [.int .u32 x] G [] (fun v G' Ho=>v=.int .i64 (32 - (Lib.bitLen x.toNat:Int))∧G'=G∧Ho=[]):=
 Lf fun w=>Tryz.bits_LeadingZeros32 x w h0 h1
theorem TF (G:Imm) (x:Int) (h0:0<x) (h1:x<4294967296):Does Tryz.prog 202 [.int .u32 x] G [] (fun v G' Ho=>∃ sh:Nat,v=.int .i64 (sh:Int)∧sh<32∧2147483648≤((2 ^ sh:Nat):Int)*x∧((2 ^ sh:Nat):Int)*(x+1)≤4294967296∧G'=G∧Ho=[]):=by
 obtain ⟨sh,h2,h3,h4,h5⟩:=CS h0 h1
 exact (YD G x sV sV).mono fun v G' Ho _ ⟨e1,e2,e3⟩=>⟨sh,by rw [e1,h3],h2,h4,h5,e2,e3⟩
theorem PD (G:Imm) (a:Option Addr) (ca:Nat) (la:List U32) (s:Nat) (ha:Arr G a la) (da:Lims la) (h1:la.length≤1073741824) (hs:s<32) :
 Does Tryz.prog 110 [.slice a la.length ca,.int .i64 (s:Int)] G [] (fun v G' Ho=>∃ r,v=.tuple #[r,.int .i64 0]∧Nat32 G' r (((2 ^ s:Nat):Int)*sX la) (la.length+1)∧Ho=[]):=by
 have h:=TE G a ca la 0 s ha da h1 hs sV
 rw [show 32*0+s=s by omega,Jj,fH] at h
 exact h
section
attribute [local irreducible] sX pb tQ tN
theorem YE (G:Imm) (a b:Option Addr) (ca cb:Nat) (la lb:List U32) (ha:Arr G a la) (hb:Arr G b lb) (da:Lims la) (ta:Top la) (db:Lims lb) (h1:la.length≤536870912) (h2:lb.length≤536870912) (h3:la.length≤ca) (h4:lb.length≤cb) (hB:0<sX lb) :
 Does Tryz.prog 158 [.slice a la.length ca,.slice b lb.length cb] G [] (fun v G' Ho=>∃ q r,v=.tuple #[q,r,.int .i64 0]∧Nat32 G' q (sX la / sX lb) la.length∧Nat32 G' r (sX la % sX lb) lb.length∧Ho=[]):=by
 have hA:=tT da
 refine D0 Tryz.func158 Tryz.ntmps158 fun w=>?_
 refine aK 10 [] ?_
 refine bV 0 rfl (Jb _ _ _ _ sW sV uU) fun v1 G1 Ho1 hle1 hp=>?_
 obtain ⟨ta1,tm1,rfl,hta1,hte1,htr1,htl1,rfl,rfl⟩:=hp
 refine bJ 3 [] ?_
 have dm:=vX hte1 db
 have tp:=Bq hte1 htr1
 have hV:=wE hte1 htr1
 have hpos:0<tm1.length:=by
  rcases eU tm1.length with h | h
  · have h5:=cB h
    rw [h5,tX] at hV
    omega
  exact h
 by_cases hlt:sX la<sX tm1
 · have hcmp:tQ (sX la) (sX tm1)=-1:=xX hlt
   refine aK 16 [0] ?_
   refine bW rfl (PC _ _ _ _ _ _ _ sW sW sW sW sV sV sV sV) ?_
   refine aJ 7 [1] ?_
   refine bV 0 rfl (QF _ _ _ _ sW Jy Jy) fun v2 G2 Ho2 hle2 hp=>?_
   obtain ⟨na2,nm2,rfl,hna2,hne2,hnt2,hnl2,rfl⟩:=hp
   replace ha:=ha.up hle2
   replace hb:=hb.up hle2
   replace hta1:=hta1.up hle2
   refine aW 7 [] ?_
   refine Ar.e3 ?_
   refine ⟨_,_,rfl,⟨none,[],rfl,pP _,Lims.nil,Top.nil,?_,aU _⟩,Br (oA hna2 hne2 hnt2 da ?_ (aG _)) db ?_,rfl⟩
   · rw [tX,iQ hA sV]
   · rw [Int.emod_eq_of_lt hA sV]
   exact eF _ hB
 have hcmp:¬tQ (sX la) (sX tm1)<0:=fun h=>hlt (Tu h)
 by_cases hone:tm1.length=1
 · have hv1:=GL hone
   have hr1:=vG dm 0
   have e1:(tm1[(0:Int).toNat]?.getD default).v=lg tm1 0:=rfl
   have hb0:0<(tm1[(0:Int).toNat]?.getD default).v∧(tm1[(0:Int).toNat]?.getD default).v<4294967296:=by rw [e1];omega
   refine aK 16 [0] ?_
   refine bW rfl (PC _ _ _ _ _ _ _ sW sW sW sW sV sV sV sV) ?_
   refine aJ 19 [0,1] ?_
   refine dP (α:=U32) T.sl87 ?_
   refine eK rfl (dZ T.one166 rfl (kG sW sV 0 rfl rfl)) ?_
   refine bV 0 rfl (XZ _ _ _ _ _ sW sW sV sV sV) fun v2 G2 Ho2 hle2 hp=>?_
   obtain ⟨dq2,dz2,dm2,rfl,⟨dqa2,dqm2,rfl,hdqa2,hdql2,hdqt2,hdqv2,hdqn2⟩,hdv2,hd02,hd12,rfl⟩:=hp
   replace ha:=ha.up hle2
   replace hb:=hb.up hle2
   replace hta1:=hta1.up hle2
   refine aJ 13 [] ?_
   refine fF (α:=U32) 0 [⟨dm2⟩] rfl T.sl87 T.el166 rfl rfl rfl rfl rfl fun b1=>?_
   have hdl:Lims [(⟨dm2⟩:U32)]:=Lims.one sV
   refine cR 0 rfl (iI (xs:=[(⟨dm2⟩:U32)]) Jz) fun G9 hle9 hA9=>?_
   replace hdqa2:=hdqa2.up hle9
   refine bV 1 rfl (QF _ _ _ _ sW Jy Jy) fun v3 G3 Ho3 hle3 hp=>?_
   obtain ⟨na3,nm3,rfl,hna3,hne3,hnt3,hnl3,rfl⟩:=hp
   replace hA9:=hA9.up hle3
   replace hdqa2:=hdqa2.up hle3
   refine aW 7 [] ?_
   refine Ar.e3 ?_
   have hdu:=(qS (a:=sX la) (b:=sX lb) (r:=dm2) (q:=dz2) hB).2 ⟨by rw [cN,←hV,hv1,←e1];omega,hd02,by rw [←hV,hv1,←e1];exact hd12⟩
   refine ⟨_,_,rfl,⟨dqa2,dqm2,rfl,hdqa2,hdql2,hdqt2,by rw [hdqv2,hdu.1],hdqn2⟩,Br (oA hna3 hne3 hnt3 hdl (by rw [Bn,hdu.2]) (aG _)) db (eF _ hB),rfl⟩
 obtain ⟨m,hm⟩:∃ m,tm1.length=m+2:=⟨tm1.length - 2,by omega⟩
 have hx:=vG dm (m+1)
 have ex:(tm1[((tm1.length:Int) - 1).toNat]?.getD default).v=lg tm1 (m+1):=by unfold lg;rw [show ((tm1.length:Int) - 1).toNat=((m+1:Nat):Int).toNat by omega]
 have hx1:lg tm1 (m+1)≠0:=by
  rcases tp with h | h
  · rw [h] at hm;simp at hm
  unfold lg;rw [aF,show m+1=tm1.length - 1 by omega];exact h
 have hxb:0<(tm1[((tm1.length:Int) - 1).toNat]?.getD default).v∧(tm1[((tm1.length:Int) - 1).toNat]?.getD default).v<4294967296:=by rw [ex];omega
 refine aK 16 [0] ?_
 refine bW rfl (PC _ _ _ _ _ _ _ sW sW sW sW sV sV sV sV) ?_
 refine aJ 23 [0,0] ?_
 refine dP (α:=U32) T.sl87 ?_
 refine fQ 0 T.one166 ?_
 refine bV 0 rfl (TF _ _ sV sV) fun v2 G2 Ho2 hle2 hp=>?_
 obtain ⟨sh,rfl,hsh,hs1,hs2,rfl,rfl⟩:=hp
 refine aJ 7 [] ?_
 refine bV 0 rfl (PD _ _ _ _ sh sW sW sV sV) fun v3 G3 Ho3 hle3 hp=>?_
 obtain ⟨sr3,rfl,⟨sa3,sm3,rfl,hsa3,hsl3,hst3,hsv3,hsn3⟩,rfl⟩:=hp
 replace ha:=ha.up hle3
 replace hb:=hb.up hle3
 replace hta1:=hta1.up hle3
 refine aJ 11 [] ?_
 refine bV 0 rfl (PD _ _ _ _ sh sW sW sV sV) fun v4 G4 Ho4 hle4 hp=>?_
 obtain ⟨sr4,rfl,⟨sa4,sm4,rfl,hsa4,hsl4,hst4,hsv4,hsn4⟩,rfl⟩:=hp
 replace hsa3:=hsa3.up hle4
 replace ha:=ha.up hle4
 replace hb:=hb.up hle4
 replace hta1:=hta1.up hle4
 refine aJ 10 [] ?_
 refine fF (α:=U32) 0 [⟨0⟩] rfl T.sl87 T.el166 rfl rfl rfl rfl rfl fun b1=>?_
 have hP:0<((2 ^ sh:Nat):Int):=(xP (s:=sh) sV).choose_spec.2.2
 obtain ⟨hvl,hvt⟩:=HC hP hm dm hsl3 hst3 (by rw [←ex];exact hs1) (by rw [←ex];exact hs2) hsv3
 have hge:sX sm3≤sX sm4:=by
  rw [hsv3,hsv4];exact aY sV (bM hP)
 have huv:sm3.length≤sm4.length:=by
  rcases aM sm4.length sm3.length with h | h
  · have:=yC hsl4 hsl3 hst3 h;omega
  exact h
 refine Re (α:=U32) (xs:=sm4) (ys:=[(⟨0⟩:U32)]) 40 rfl T.sl87 T.el166 rfl rfl (qB sW) sV (fZ 0 rfl) tF (by simp only [bQ,cT];omega) (by simp only [bQ,cT,maxLen];omega) fun b2 c2 j2 ho2=>?_
 have hstart:=CT hsl4 hsl3 hst3 sV huv
 have huA:sX (sm4++[(⟨0⟩:U32)])=sX sm4:=by rw [uN,Bn];show _+_*0=_;omega
 have dU:Lims (sm4++[(⟨0⟩:U32)]):=hsl4.append (Lims.one tF)
 have lU:(sm4++[(⟨0⟩:U32)]).length=sm4.length+1:=by rw [aI];rfl
 change sX ((sm4++[(⟨0⟩:U32)]).drop _)<_ at hstart
 generalize sm4++[(⟨0⟩:U32)]=uL at *
 refine aJ 16 [] ?_
 refine iC (α:=U32) 41 rfl T.sl87 T.el166 rfl rfl sV sV fun b3=>?_
 refine bJ 15 [] ?_
 obtain ⟨N,hN⟩:∃ N,N=uL.length - sm3.length:=⟨_,rfl⟩
 have hM:((uL.length:Int) - (sm3.length:Int)).toNat=N:=sV
 rw [hM]
 have hNs:sm4.length+1 - sm3.length=N:=sV
 rw [hNs] at hstart
 have hown:∀ r:List U32,r.length=N→OwnA (some ⟨b3,0,none⟩) N r []:=fun r hr=>.inr ⟨b3,rfl,by rw [hr];rfl,by omega,by simp only [maxLen];omega⟩
 have hc2:uL.length≤c2:=ho2.le
 have hownU:∀ r:List U32,r.length=uL.length→OwnA (some ⟨b2,0,none⟩) c2 r j2:=fun r hr=>by
  rcases ho2 with ⟨h,_⟩ | ⟨b',e,h5,h6,h7⟩
  · cases h
  exact .inr ⟨b',e,by rw [hr];exact h5,by rw [hr];exact h6,h7⟩
 refine jE 16 rfl (show _=Value.slice (some ⟨b3,0,none⟩) (List.replicate N (default:U32)).length N by rw [aE]) ?_
 refine jE 17 rfl (show _=Value.int .i64 ((N:Int) - 1) by congr 1;omega) ?_
 refine gC (ι:=Nat×List U32×List U32) (fun (k,q,R)=>([(17,.int .i64 ((k:Int) - 1)),(16,.slice (some ⟨b3,0,none⟩) q.length N),(13,.slice (some ⟨b2,0,none⟩) R.length c2),(15,.int .i64 (sm3.length:Int)),(11,.slice sa3 (List.length sm3) (List.length sm3)),(10,.int .i64 (↑sh:Int)),(6,.int .i64 0),(5,.slice none 0 0),(4,.slice none 0 0)],[(41,some b3,tK 166 q []),(40,some b2,tK 166 R j2),(0,some b1,tK (α:=Go.Sl.U32) 166 ([Go.Sl.U32.mk 0]) ([]))])) (fun (k,q,R)=>k≤N∧q.length=N∧Lims q∧R.length=uL.length∧Lims R∧sX sm4=sX q*sX sm3+sX R∧sX (R.drop k)<sX sm3∧∀ j,j<k→lg q j=0) (fun (k,q,R)=>k) ((N,List.replicate N (default:U32),uL)) (⟨aG _,aE,nR N,rfl,dU,by rw [show sX (List.replicate N (default:U32))=0 from yY N,gK,jI,huA],hstart,fun j _=>Ew N j⟩) fun ⟨k,q,R⟩=>fun hk=>?_
 obtain ⟨hk1,hqN,hdq,hRn,hdR,hval,hRlt,hqz⟩:=hk
 have hoq:=hown q hqN
 have hoR:=hownU R hRn
 rcases eU k with rfl | hkp
 · rw [iZ] at hRlt
   refine aK 17 [0] ?_
   refine cR 41 rfl hoq (fun G8 hle8 hAq=>cR 40 rfl hoR (fun G9 hle9 hAR=>?_))
   replace hAq:=hAq.up hle9
   refine bV 42 rfl (YC _ _ _ _ sh sW sW sV sV sV) fun v5 G5 Ho5 hle5 hp=>?_
   obtain ⟨sr5,rfl,⟨sa5,sm5,rfl,hsa5,hsl5,hst5,hsv5,hsn5⟩,rfl⟩:=hp
   replace hAR:=hAR.up hle5
   replace hAq:=hAq.up hle5
   refine aJ 10 [] ?_
   refine bV 42 rfl (Jb _ _ _ _ sW sV uU) fun v6 G6 Ho6 hle6 hp=>?_
   obtain ⟨ta6,tm6,rfl,hta6,hte6,htr6,htl6,rfl,rfl⟩:=hp
   refine aW 7 [] ?_
   refine Ar.e3 ?_
   have hRn0:=tT hdR
   rw [hsv3,hsv4,hV] at hval
   rw [hsv3,hV] at hRlt
   obtain ⟨hd1,hd2,_⟩:=NB hP hval hRn0 hRlt
   exact ⟨_,_,rfl,oA hta6 hte6 htr6 hdq hd2 sV,Br ⟨sa5,sm5,rfl,hsa5,hsl5,hst5,by rw [hsv5,hd1],aG _⟩ db (eF _ hB),rfl⟩
 obtain ⟨i,rfl⟩:∃ i,k=i+1:=⟨k - 1,by omega⟩
 have ei:(((i+1:Nat):Int) - 1).toNat=i:=sV
 refine aK 21 [1] ?_
 refine aN (FQ T.sl87 rfl rfl rfl sV sV sV) ?_
 refine aA 1 [] ?_
 have hroom:=HE (n:=m+2) hdR hsl3 (show i<R.length by omega) hvl sV hRlt
 obtain ⟨p,hp⟩:∃ p,p=R.take i:=⟨_,rfl⟩
 obtain ⟨ww,hw⟩:∃ ww,ww=(R.drop i).take (m+3):=⟨_,rfl⟩
 obtain ⟨z,hz⟩:∃ z,z=R.drop (i+(m+3)):=⟨_,rfl⟩
 have hsplit:R=p++(ww++z):=by rw [hp,hw,hz];exact HD R i (m+3)
 have lp:p.length=i:=by rw [hp,bC];omega
 have lw:ww.length=m+3:=by rw [hw,bC,eC];omega
 have dw:Lims ww:=by rw [hw];exact (yP hdR i).take _
 obtain ⟨hr1,hr2⟩:=hroom
 rw [show m+2+1=m+3 by omega] at hr1 hr2
 rw [←hw] at hr1
 rw [←hz] at hr2
 refine kD 93 rfl (show _=Value.slice (some ⟨b2,p.length,none⟩) ww.length (c2 - i) by
  rw [ei,lp,lw]
  show Value.slice (if c2=i then (some ⟨b2,0,none⟩:Option Addr) else (some ⟨b2,0,none⟩:Option Addr).map (·.add (i*1))) _ _=_
  rw [aL (by omega),eY,add_lit,qO,cH]
  congr 1
  omega) ?_
 refine oV 40 (tK 166 (p++(ww++z)) j2) rfl (by rw [←hsplit]) ?_
 refine bV 40 rfl (YB _ b2 p ww z j2 _ _ _ sm3 m sW dw hsl3 sV lw hvl hvt hr1) fun r9 G9 Ho9 hle9 hp9=>?_
 obtain ⟨w9,g9,rfl,rfl,rfl,hg1,hg2,hwl,hwd,hwv,hwlt⟩:=hp9
 refine fW (α:=U32) T.sl87 ?_
 refine eX (z:=_) 41 T.size166 rfl rfl rfl sW sV rfl fun ho1=>?_
 refine aW 8 [] ?_
 have lz:z.length=R.length - (i+(m+3)):=by rw [hz,eC]
 have dz:Lims z:=by rw [hz];exact yP hdR _
 have dp:Lims p:=by rw [hp];exact hdR.take _
 have hwin:=MW p ww w9 z sV
 rw [←hsplit,lp,hwv,show sX ww - g9*sX sm3 - sX ww=-(g9*sX sm3) by omega] at hwin
 have lR:(p++(w9++z)).length=uL.length:=by rw [aI,aI];omega
 refine cZ 17 rfl (show _=Value.int .i64 ((i:Int) - 1) by congr 1;omega) ?_
 refine iB 41 (tK 166 (q.set i (⟨g9⟩:U32)) []) rfl (by rw [ei]) ?_
 refine cZ 16 rfl (show _=Value.slice (some ⟨b3,0,none⟩) (q.set i (⟨g9⟩:U32)).length N by rw [aH]) ?_
 refine cZ 13 rfl (show _=Value.slice (some ⟨b2,0,none⟩) (p++(w9++z)).length c2 by rw [lR,hRn]) ?_
 refine cS ((i,q.set i (⟨g9⟩:U32),p++(w9++z))) ?_ ?_
 · refine ⟨by omega,by rw [aH];exact hqN,tU hdq _ ⟨hg1,hg2⟩,lR,dp.append (hwd.append dz),GV (q:=0) sV (hqz i sV) hval hwin,?_,fun j hj=>by rw [xO sV];exact hqz j sV⟩
   rw [eO sV,eI sV,fT,uN,hr2,cI,dG]
   exact hwlt
 show i<i+1
 omega
end
end Go.Proofs.YtngphgeghfdjbaaGreatDoor
