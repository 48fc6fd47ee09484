/- uJ of the proof (part 10): what the rows' text needs of the texts that lead to it. -/
import Derived.Test.YtfdcckcadfhpeaaGreatDoorMMi
set_option linter.unusedVariables false
set_option linter.unusedSimpArgs false
set_option linter.unusedSectionVars false
set_option maxHeartbeats 4000000
noncomputable section
set_option maxRecDepth 100000
namespace Go.Sl.Ev
open Go Go.Sl
def On (m n:Int):Bool:=Int.rec (fun a=>Int.rec (fun b=>Nat.beq a b) (fun _=>false) n) (fun a=>Int.rec (fun _=>false) (fun b=>Nat.beq a b) n) m
def zY (m n:Int):Bool:=Int.rec (fun a=>Int.rec (fun b=>Nat.ble a b) (fun _=>false) n) (fun a=>Int.rec (fun _=>true) (fun b=>Nat.ble b a) n) m
theorem Tq (a b:Nat):Nat.beq a b=decide (a=b):=by
 cases h:Nat.beq a b with
 | true=>rw [aJ h];simp
 | false => have:a≠b:=fun e=>by subst e;simp at h
            simp [this]
theorem Ts (a b:Nat):Nat.ble a b=decide (a≤b):=by
 cases h:Nat.ble a b with
 | true=>simp [bD h]
 | false => have:¬a≤b:=fun e=>by rw [Nat.ble_eq_true_of_le e] at h;cases h
            simp [this]
theorem yY (m n:Int):On m n=decide (m=n):=by
 cases m <;> cases n
 · rename_i a b;show Nat.beq a b=_;rw [Tq];exact kD.2 ⟨fun h=>by rw [h],fun h=>Int.ofNat.inj h⟩
 · rename_i a b;show false=_;symm;rw [fA];intro h;cases h
 · rename_i a b;show false=_;symm;rw [fA];intro h;cases h
 rename_i a b;show Nat.beq a b=_;rw [Tq];exact kD.2 ⟨fun h=>by rw [h],fun h=>Int.negSucc.inj h⟩
theorem wF (m n:Int):zY m n=decide (m≤n):=by
 cases m <;> cases n
 · rename_i a b;show Nat.ble a b=_;rw [Ts];exact kD.2 ⟨fun h=>pZ.2 h,fun h=>pZ.1 h⟩
 · rename_i a b;show false=_;symm;rw [fA];intro h;have:=Int.negSucc_lt_zero b;have:=mH a;simp only [jW] at h;omega
 · rename_i a b;show true=_;symm;rw [aO];have:=Int.negSucc_lt_zero a;have:=mH b;simp only [jW];omega
 rename_i a b;show Nat.ble b a=_;rw [Ts];exact kD.2 ⟨fun h=>by omega,fun h=>by omega⟩
def me (lim a:Nat) (z w:Int):Int:=bif Nat.ble a lim then z else w
theorem II {lim a:Nat} {z w:Int} (h:a≤lim→w=z):me lim a z w=w:=by
 unfold me;cases hb:Nat.ble a lim with
 | true=>exact (h (bD hb)).symm
 | false=>rfl
def mf (z:Int):Int:=Int.rec (fun a=>me 9223372036854775807 a (.ofNat a) (IntKind.wrap .i64 (.ofNat a))) (fun a=>me 9223372036854775807 a (.negSucc a) (IntKind.wrap .i64 (.negSucc a))) z
def pz (lim:Nat) (k:IntKind) (z:Int):Int:=Int.rec (fun a=>me lim a (.ofNat a) (k.wrap (.ofNat a))) (fun a=>k.wrap (.negSucc a)) z
def wr (k:IntKind) (z:Int):Int:=match k with
 | .i64=>mf z
 | .u64=>pz 18446744073709551615 .u64 z
 | .u32=>pz 4294967295 .u32 z
 | .u8=>pz 255 .u8 z
 | k=>k.wrap z
theorem ZO (z:Int):mf z=IntKind.wrap .i64 z:=by
 cases z with
 | ofNat a=>exact II fun h=>iI _ (by simp only [jW];omega)
 | negSucc a=>exact II fun h=>iI _ sU
theorem IJ {lim:Nat} {k:IntKind} (h:∀ a:Nat,a≤lim→k.wrap (.ofNat a)=.ofNat a) (z:Int):pz lim k z=k.wrap z:=by
 cases z with
 | ofNat a=>exact II (h a)
 | negSucc a=>exact Eq.refl (k.wrap (.negSucc a))
theorem Tt (k:IntKind) (z:Int):wr k z=k.wrap z:=by
 cases k
 case i64=>exact ZO z
 case u64=>exact IJ (fun a h=>oK _ (by simp only [jW];omega)) z
 case u32=>exact IJ (fun a h=>by rw [sP];simp only [jW];omega) z
 case u8=>exact IJ (fun a h=>by rw [IntKind.wrap_u8];simp only [jW];omega) z
 all_goals exact Eq.refl _
def bo (o:BinOp) (k:IntKind) (m n:Int):J0 CV:=match o with
 | .eql=>some (.bool (On m n))
 | .neq=>some (.bool (not (On m n)))
 | .lss=>some (.bool (not (zY n m)))
 | .leq=>some (.bool (zY m n))
 | .gtr=>some (.bool (not (zY m n)))
 | .geq=>some (.bool (zY n m))
 | .add=>some (.int k (wr k (Int.add m n)))
 | .sub=>some (.int k (wr k (Int.sub m n)))
 | .mul=>some (.int k (wr k (Int.mul m n)))
 | .quo=>bif On n 0 then none else some (.int k (wr k (Int.tdiv m n)))
 | .rem=>bif On n 0 then none else some (.int k (Int.tmod m n))
 | .and=>some (.int k (bits .and k m n))
 | .or=>some (.int k (bits .or k m n))
 | _=>none
def sh (o:BinOp) (k:IntKind) (m n:Int):J0 CV:=match o with
 | .shl=>bif zY 0 n then some (.int k (wr k (Int.mul m (2 ^ (min n.toNat k.bits))))) else none
 | .shr=>bif zY 0 n then some (.int k (Int.fdiv m (2 ^ (min n.toNat k.bits)))) else none
 | _=>none
section
variable {P:I6} {e:B0} {H:Hp} {G:A2} {ty t t':I9} {x y:I7} {k k':IntKind} {m n:Int} {nx:Nat} {ρ:Pl} {c:CV}
theorem Lg (p:Prop) [Decidable p]:(not (decide p))=decide (¬p):=by by_cases h:p <;> simp [h]
theorem mg {o:BinOp} (hx:e.ev x=some (.int k m)) (hy:e.ev y=some (.int k n)) (h:bo o k m n=some c):∃ v,Kn nx ρ c v∧∀ ty,Qy P (.binOp o t x y t') ty e H G v:=by
 cases o <;> first | (cases h;done) | skip
 case eql=>cases h;exact ⟨_,⟨I3,U⟩,fun ty=>by rw [yY];exact Qy.eql hx hy⟩
 case neq=>cases h;exact ⟨_,⟨I3,U⟩,fun ty=>by rw [yY,Lg];exact Qy.neq hx hy⟩
 case lss=>cases h;exact ⟨_,⟨I3,U⟩,fun ty=>by rw [wF,Lg,show decide (¬n≤m)=decide (m<n) from kD.2 Int.not_le];exact Qy.lss hx hy⟩
 case leq=>cases h;exact ⟨_,⟨I3,U⟩,fun ty=>by rw [wF];exact Qy.leq hx hy⟩
 case gtr=>cases h;exact ⟨_,⟨I3,U⟩,fun ty=>by rw [wF,Lg,show decide (¬m≤n)=decide (n<m) from kD.2 Int.not_le];exact Qy.gtr hx hy⟩
 case geq=>cases h;exact ⟨_,⟨I3,U⟩,fun ty=>by rw [wF];exact Qy.geq hx hy⟩
 case add=>cases h;exact ⟨_,⟨I3,U⟩,fun ty=>by rw [Tt];exact Pb hx hy⟩
 case sub=>cases h;exact ⟨_,⟨I3,U⟩,fun ty=>by rw [Tt];exact Jn hx hy⟩
 case mul=>cases h;exact ⟨_,⟨I3,U⟩,fun ty=>by rw [Tt];exact kV hx hy⟩
 case quo =>
  have h':(bif On n 0 then none else some (CV.int k (wr k (Int.tdiv m n))))=some c:=h;have e:=yY n 0;by_cases h0:n=0
  · rw [e,cL h0] at h';cases h'
  rw [e,bN h0] at h';cases h';exact ⟨_,⟨I3,U⟩,fun ty=>by rw [Tt];exact Pc hx hy h0⟩
 case rem =>
  have h':(bif On n 0 then none else some (CV.int k (Int.tmod m n)))=some c:=h;have e:=yY n 0;by_cases h0:n=0
  · rw [e,cL h0] at h';cases h'
  rw [e,bN h0] at h';cases h';exact ⟨_,⟨I3,U⟩,fun ty=>sJ hx hy h0⟩
 case and=>cases h;exact ⟨_,⟨I3,U⟩,fun ty=>mA hx hy⟩
 case or=>cases h;exact ⟨_,⟨I3,U⟩,fun ty=>PX hx hy⟩
theorem mh {o:BinOp} (hx:e.ev x=some (.int k m)) (hy:e.ev y=some (.int k' n)) (h:sh o k m n=some c):∃ v,Kn nx ρ c v∧∀ ty,Qy P (.binOp o t x y t') ty e H G v:=by
 cases o <;> first | (cases h;done) | skip
 case shl =>
  have h':(bif zY 0 n then some (CV.int k (wr k (Int.mul m (2 ^ (min n.toNat k.bits))))) else none)=some c:=h;have e:=wF 0 n;by_cases h0:0≤n
  · rw [e,cL h0] at h';cases h';exact ⟨_,⟨I3,U⟩,fun ty=>by rw [Tt];exact Qy.shl hx hy h0⟩
  rw [e,bN h0] at h';cases h'
 case shr =>
  have h':(bif zY 0 n then some (CV.int k (Int.fdiv m (2 ^ (min n.toNat k.bits)))) else none)=some c:=h;have e:=wF 0 n;by_cases h0:0≤n
  · rw [e,cL h0] at h';cases h';exact ⟨_,⟨I3,U⟩,fun ty=>pE hx hy h0⟩
  rw [e,bN h0] at h';cases h'
end
def mi (e:B0) (d:Nat):J0 I7→Nat→Prop
 | none,l=>l=d
 | some y,l=>∃ k,e.ev y=some (.int k (l:Int))
section
variable {P:I6} {e:B0} {H:Hp} {G:A2} {ty T:I9}
theorem OU {x:I7} {fs:Array Field} {fd:Field} {i:Nat} {vs:List Value} {v:Value} (hu:P.underlying T=some (.struct fs)) (hf:fs[i]?=some fd) (h1:wZ P fd.type=true)
 (hx:e.ev x=some (.agg vs.toArray)) (hv:vs[fd.offset]?=some v):Qy P (.field T x i) ty e H G v:=fun a w _ _ _ _ hh=>by
 simp [execOp,hh.eval hx,Instr.field,bB hu,hf,asAgg,part,yI w h1,hv]
theorem OV {x:I7} {fs:Array Field} {fd:Field} {i k:Nat} {vs:List Value} (hu:P.underlying T=some (.struct fs)) (hf:fs[i]?=some fd) (h1:yH P fd.type k=true)
 (hx:e.ev x=some (.agg vs.toArray)):Qy P (.field T x i) ty e H G (.agg ((vs.drop fd.offset).take k).toArray):=fun a w _ _ _ _ hh=>by
 have h2:=run_sizeOf (P:=P) w (Qr h1);simp [execOp,hh.eval hx,Instr.field,bB hu,hf,asAgg,part,Di w h1,h2]
theorem Oo {x:I7} {lo hi:J0 I7} {a:J0 Addr} {n c l h E sz:Nat} (hT:tR P T E sz) (hx:e.ev x=some (.slice a n c))
 (hl:mi e 0 lo l) (hh:mi e n hi h) (hlh:l≤h) (hhc:h≤c) :
 Qy P (.slice T x lo hi none) ty e H G (.slice (if c=l then a else a.map (·.add (l*sz))) (h - l) (c - l)):=fun ac w _ _ _ _ hk=>by
 have hr:=run_sizeOf (P:=P) w hT.2;have e1:(h:Int)≤c:=sU;have e2:(l:Int)≤h:=sU;cases lo with
 | none =>
   have hl:l=0:=hl;subst hl;cases hi with
   | none=>have hh:h=n:=hh;subst hh;simp [execOp,Instr.sliceAt,Instr.slice,hk.eval hx,bB hT.1,Instr.sliceBounds,Instr.sliceBound,asIntOf,hr]
   | some y =>
     obtain ⟨k,hy⟩:=hh;simp [execOp,Instr.sliceAt,Instr.slice,hk.eval hx,hk.eval hy,bB hT.1,Instr.sliceBounds,Instr.sliceBound,asIntOf,hr,e1,hhc]
 | some z =>
   obtain ⟨kz,hz⟩:=hl;cases hi with
   | none =>
     have hh:h=n:=hh;subst hh;simp [execOp,Instr.sliceAt,Instr.slice,hk.eval hx,hk.eval hz,bB hT.1,Instr.sliceBounds,Instr.sliceBound,asIntOf,hr,e2,hlh]
   | some y =>
     obtain ⟨k,hy⟩:=hh;simp [execOp,Instr.sliceAt,Instr.slice,hk.eval hx,hk.eval hz,hk.eval hy,bB hT.1,Instr.sliceBounds,Instr.sliceBound,asIntOf,hr,e1,e2,hlh,hhc]
theorem Vl {x i:I7} {b o n sz E:Nat} {k:IntKind} {m:Int} (hu:P.underlying T=some (.array n E)) (hs:(P.info? E).map (·.size)=some sz) (hx:e.ev x=some (.pointer (some ⟨b,o,none⟩))) (hi:e.ev i=some (.int k m))
 (hb:0≤m∧m<n):Qy P (.indexAddr T x i) ty e H G (.pointer (some ⟨b,o+m.toNat*sz,none⟩)):=fun a w _ _ _ _ hh=>by
 simp [execOp,Instr.indexAt,hh.eval hx,hh.eval hi,asIntOf,bB hu,Instr.sureAddr,hb,run_sizeOf w hs,add_lit]
theorem Qy.indexV {x i:I7} {n E:Nat} {k:IntKind} {m:Int} {vs:List Value} {v:Value} (hu:P.underlying T=some (.array n E)) (h1:wZ P E=true) (hs:(P.info? E).map (·.size)=some 1) (hx:e.ev x=some (.agg vs.toArray)) (hi:e.ev i=some (.int k m))
 (hb:0≤m∧m<n) (hv:vs[m.toNat]?=some v):Qy P (.index T x i) ty e H G v:=fun a w _ _ _ _ hh=>by
 simp [execOp,Instr.index,hh.eval hx,hh.eval hi,asIntOf,bB hu,hb,run_sizeOf w hs,part,yI w h1,hv]
theorem IK {x i:I7} {n E sz:Nat} {k:IntKind} {m:Int} {vs:List Value} (hu:P.underlying T=some (.array n E)) (h1:yH P E sz=true) (hx:e.ev x=some (.agg vs.toArray)) (hi:e.ev i=some (.int k m))
 (hb:0≤m∧m<n):Qy P (.index T x i) ty e H G (.agg ((vs.drop (m.toNat*sz)).take sz).toArray):=fun a w _ _ _ _ hh=>by
 have h2:=run_sizeOf (P:=P) w (Qr h1);simp [execOp,Instr.index,hh.eval hx,hh.eval hi,asIntOf,bB hu,hb,h2,part,Di w h1]
theorem ZP {x:I7} {s:ByteArray} (ht:P.underlying T=some .string) (hx:e.ev x=some (.string s)):Qy P (.call { callee:=.builtin .len,args:=#[x],argTypes:=#[T] }) ty e H G (.int .i64 s.size):=fun a w _ _ _ _ hh=>by
 simp [execOp,resolve,invoke,builtin,Builtin.len_,hh.eval hx,bB ht,goInt]
end
section
variable {P:I6} {e:B0} {H:Hp} {G:A2} {ty T:I9}
theorem Lh {t t':I9} {x y:I7} {a:J0 Addr} (ht:P.underlying t=some (.pointer (P.pointee t))) (hx:e.ev x=some (.pointer a)) (hy:e.ev y=some (.pointer none)):Qy P (.binOp .eql t x y t') ty e H G (.bool a.isNone):=fun w0 w _ _ _ _ hh=>by
 have:=run_equalIn_pointer_nil (P:=P) w 9999 t a ht;simp [execOp,hh.eval hx,hh.eval hy,binOp,eqGuard,Op.equal,Op.maxDepth,this]
theorem Li {t t':I9} {x y:I7} {a:J0 Addr} (ht:P.underlying t=some (.pointer (P.pointee t))) (hx:e.ev x=some (.pointer a)) (hy:e.ev y=some (.pointer none)):Qy P (.binOp .neq t x y t') ty e H G (.bool (!a.isNone)):=fun w0 w _ _ _ _ hh=>by
 have:=run_equalIn_pointer_nil (P:=P) w 9999 t a ht;simp [execOp,hh.eval hx,hh.eval hy,binOp,eqGuard,Op.equal,Op.maxDepth,this]
theorem Xz {x z:I7} {lo hi:J0 I7} {a:J0 Addr} {n c l h m E sz:Nat} {kz:IntKind} (hT:tR P T E sz) (hx:e.ev x=some (.slice a n c))
 (hl:mi e 0 lo l) (hh:∃ y,hi=some y∧∃ k,e.ev y=some (.int k (h:Int))) (hz:e.ev z=some (.int kz (m:Int))) (hlh:l≤h) (hhm:h≤m) (hmc:m≤c) :
 Qy P (.slice T x lo hi (some z)) ty e H G (.slice (if m=l then a else a.map (·.add (l*sz))) (h - l) (m - l)):=fun ac w _ _ _ _ hk=>by
 have hr:=run_sizeOf (P:=P) w hT.2;have e1:(h:Int)≤m:=sU;have e2:(l:Int)≤h:=sU;have e3:(m:Int)≤c:=sU;obtain ⟨y,rfl,k,hy⟩:=hh;cases lo with
 | none =>
   have hl:l=0:=hl;subst hl;simp [execOp,Instr.sliceAt,Instr.slice,hk.eval hx,hk.eval hy,hk.eval hz,bB hT.1,Instr.sliceBounds,Instr.sliceBound,asIntOf,hr,e1,e3,hhm,hmc]
 | some u =>
   obtain ⟨ku,hu⟩:=hl;simp [execOp,Instr.sliceAt,Instr.slice,hk.eval hx,hk.eval hy,hk.eval hz,hk.eval hu,bB hT.1,Instr.sliceBounds,Instr.sliceBound,asIntOf,hr,e1,e2,e3,hhm,hmc,hlh]
end
def qe (P:I6) (T:Nat):J0 (Nat×Nat×Nat):=match P.underlying T with
 | some (.array n E)=>match VJ P E with | some k=>some (n,E,k) | none=>none
 | _=>none
theorem Tu {P:I6} {T n E k:Nat} (h:qe P T=some (n,E,k)):P.underlying T=some (.array n E)∧(P.info? E).map (·.size)=some k:=by
 unfold qe at h;split at h
 · rename_i n' E' hu;split at h
   · rename_i m hm;cases h;exact ⟨hu,Nn hm⟩
   cases h
 cases h
def Do:CV→J0 CV
 | .agg l=>some l
 | .tup _=>none
 | .nil=>none
 | .cons _ _=>none
 | x=>some (.cons x .nil)
section
variable {nx n:Nat} {ρ:Pl}
theorem Ei {x:CV} {v:Value} (h:Kn nx ρ x v) {l:CV} (hl:Do x=some l):KL nx ρ l v.cells.toList:=by
 have scal:∀ y:CV,AT y=true→∀ u,Kn nx ρ y u→KL nx ρ (.cons y .nil) u.cells.toList:=fun y hy u hu=>by
  rw [Vu (Xy hu hy)];exact oX hu nC
 cases x with
 | agg m=>cases hl;obtain ⟨vs,h1,h2⟩:=sR.1 h.2;rw [h2];exact ⟨h.1,h1⟩
 | tup m=>cases hl
 | nil=>cases hl
 | cons a b=>cases hl
 | _=>cases hl;exact scal _ U _ h
end
def wi (P:I6) (fs:List Field):J0 (List (Nat×Nat)):=List.rec (some []) (fun f _ ih=>match VJ P f.type with | some k=>(match ih with | some l=>some ((f.offset,k) :: l) | none=>none) | none=>none) fs
theorem ff {P:I6}:∀ {fs:List Field} {pl:List (Nat×Nat)},wi P fs=some pl→fs.map (fun f=>(f.offset,(P.info? f.type).map (·.size)))=pl.map fun x=>(x.1,some x.2):=by
 intro fs;induction fs with
 | nil=>intro pl h;cases h;rfl
 | cons f fs ih =>
   intro pl h;have h':(match VJ P f.type with | some k=>(match wi P fs with | some l=>some ((f.offset,k) :: l) | none=>none) | none=>none)=some pl:=h;split at h'
   · rename_i k hk;split at h'
     · rename_i l hl;cases h';rw [dY,dY,ih hl,Nn hk]
     cases h'
   cases h'
def bh (P:I6) (T:Nat):J0 CV:=match P.info? T with
 | some i=>match i.zero with
   | some v=>match py v with
     | some x=>Do x
     | none=>none
   | none=>none
 | none=>none
theorem Tv {P:I6} {T:Nat} {x:CV} (h:bh P T=some x) (nx:Nat) (ρ:Pl):∃ i z,P.info? T=some i∧i.zero=some z∧KL nx ρ x z.cells.toList:=by
 unfold bh at h;split at h
 · rename_i i hi;split at h
   · rename_i v hv;split at h
     · rename_i y hy;exact ⟨i,v,hi,hv,Ei (VI hy) h⟩
     cases h
   cases h
 cases h
def Lj (E:Tr CV) (pl:List (Nat×Nat)) (n:Nat) (parts:List (Nat×I7)):CV→J0 CV:=
 List.rec (fun l=>some l) (fun p _ ih l=>match Ur pl p.1 with
  | some (off,size)=>(match vO E p.2 with
    | some c=>(match Do c with
      | some m=>bif Nat.beq (uK m) size && Nat.ble (off+size) n then ih (Eg (Ii off l) (Eg m (Ih (off+size) l))) else none
      | none=>none)
    | none=>none)
  | none=>none) parts
section
variable {nx n:Nat} {ρ:Pl} {E:Tr CV} {a:Act}
theorem Lk (hs:B4 ρ E nx n a) {pl:List (Nat×Nat)} {N:Nat}:∀ {parts:List (Nat×I7)} {l r:CV} {zs:List Value},KL nx ρ l zs→Lj E pl N parts l=some r→
 ∃ vs,Bj (eA a) parts=some vs∧Il pl N vs=true∧KL nx ρ r (Bg pl zs vs):=by
 intro parts;induction parts with
 | nil=>intro l r zs hl h;cases h;exact ⟨[],U,U,hl⟩
 | cons p parts ih =>
   intro l r zs hl h;obtain ⟨i,x⟩:=p;have h':(match Ur pl i with
    | some (off,size)=>(match vO E x with
      | some c=>(match Do c with
        | some m=>bif Nat.beq (uK m) size && Nat.ble (off+size) N then Lj E pl N parts (Eg (Ii off l) (Eg m (Ih (off+size) l))) else none
        | none=>none)
      | none=>none)
    | none=>none)=some r:=h
   split at h'
   · rename_i off size hp;split at h'
     · rename_i c hc;split at h'
       · rename_i m hm;cases hb:Nat.beq (uK m) size && Nat.ble (off+size) N with
         | true =>
           rw [hb] at h';simp only [aF] at hb;obtain ⟨v,e1,k1⟩:=tD hs hc;have kc:=Ei k1 hm;have hlen:v.cells.toList.length=size:=by rw [←uU kc];exact aJ hb.1
           obtain ⟨vs,e2,o2,k2⟩:=ih (Hg (To off hl) (Hg kc (Tn (off+size) hl))) h';rw [Ab] at hp;refine ⟨(i,v) :: vs,by unfold Bj;rw [e1,e2],?_,?_⟩
           · unfold Il;rw [hp,o2,lZ,hlen];simp only [aF];exact ⟨by simp,hb.2⟩
           · unfold Bg;rw [hp];simp only [hlen];exact k2
         | false=>rw [hb] at h';cases h'
       cases h'
     cases h'
   cases h'
end
def fg (P:I6) (fs:List Field):Nat→Bool:=List.rec (fun _=>true) (fun f _ ih j=>match Ao P f with | (true,k)=>Nat.beq k j && ih (Nat.succ j) | _=>false) fs
theorem ZQ {P:I6}:∀ {fs:List Field} {j:Nat},fg P fs j=true→fs.map (Ao P)=(List.range' j fs.length).map fun i=>(true,i):=by
 intro fs;induction fs with
 | nil=>intro j _;rfl
 | cons f fs ih =>
   intro j h;have h':(match Ao P f with | (true,k)=>Nat.beq k j && fg P fs (Nat.succ j) | _=>false)=true:=h;split at h'
   · rename_i k hk;rw [aF] at h';have e:=aJ h'.1;subst e;rw [dY,hk,aU,sM,dY,ih h'.2]
   cases h'
def qf (P:I6) (t:Nat):J0 Nat:=match P.underlying t with
 | some (.struct ⟨fs⟩)=>bif not (P.stoodInHeld t) && (not (P.eqGuardType P.depth t) && fg P fs 0) then some fs.length else none
 | _=>none
theorem VL {P:I6} {t n:Nat} (h:qf P t=some n):Dj P t n:=by
 unfold qf at h;split at h
 · rename_i fs hu;rcases tA h with ⟨h1,h2⟩ | ⟨_,h2⟩
   · cases h2;simp only [aF,eW] at h1;have hf:P.fieldsOf t=⟨fs⟩:=by unfold Program.fieldsOf;rw [hu]
     refine ⟨by rw [hf];exact hu,h1.1,h1.2.1,?_⟩;rw [hf,ZQ h1.2.2,qO]
   cases h2
 cases h
def ZR:CV→J0 Int
 | .int .i64 n=>some n
 | _=>none
theorem ZS {nx:Nat} {ρ:Pl} {a:CV} {v:Value} {n:Int} (h:ZR a=some n) (hk:Kn nx ρ a v):v=.int .i64 n:=by
 unfold ZR at h;split at h
 · cases h;exact hk.2
 cases h
def FM (l:CV):J0 (List Int):=lrec (some []) (fun a _ ih=>match ZR a with | some n=>(match ih with | some l=>some (n :: l) | none=>none) | none=>none) l
theorem FN {nx:Nat} {ρ:Pl} {x:CV} {vs:List Value} (h:KL nx ρ x vs):∀ {xs:List Int},FM x=some xs→vs=xs.map (Value.int .i64):=by
 refine nD (motive:=fun x vs=>∀ {xs:List Int},FM x=some xs→vs=xs.map (Value.int .i64)) ?_ ?_ h
 · intro xs hx;have hx':some []=some xs:=hx;cases hx';rfl
 intro a b v vs hv _ ih xs hx;have hx':(match ZR a with | some n=>(match FM b with | some l=>some (n :: l) | none=>none) | none=>none)=some xs:=hx;split at hx'
 · rename_i n hn;split at hx'
   · rename_i l hl;cases hx';rw [dY,←ih hl,ZS hn hv]
   cases hx'
 cases hx'
def wj (xs ys:List Int):Bool:=List.rec (fun ys=>List.rec true (fun _ _ _=>false) ys) (fun x _ ih ys=>List.rec false (fun y l _=>On x y && ih l) ys) xs ys
theorem fh:∀ xs ys:List Int,wj xs ys=decide (xs=ys):=by
 intro xs;induction xs with
 | nil=>intro ys;cases ys with
   | nil=>rfl
   | cons y ys=>show false=_;simp
 | cons x xs ih=>intro ys;cases ys with
   | nil=>show false=_;simp
   | cons y ys =>
     show (On x y && wj xs ys)=_;rw [yY,ih];by_cases h1:x=y <;> by_cases h2:xs=ys <;> simp [h1,h2]
def wk (P:I6) (t:Nat) (x y:CV):J0 Bool:=match x,y with
 | .bool a,.bool b=>(match P.underlying t with | some .bool=>some (bif a then b else not b) | _=>none)
 | .agg a,.agg b=>(match qf P t with
   | some n=>(match FM a with
     | some xs=>(match FM b with
       | some ys=>bif Nat.beq xs.length n && Nat.beq ys.length n then some (wj xs ys) else none
       | none=>none)
     | none=>none)
   | none=>none)
 | .sl _ _ _ _ _,.nils=>(match BK P t with | some _=>some false | none=>none)
 | .nils,.nils=>(match BK P t with | some _=>some true | none=>none)
 | .ptr _ _,.nilp=>(match P.underlying t with | some (.pointer _)=>some false | _=>none)
 | .nilp,.nilp=>(match P.underlying t with | some (.pointer _)=>some true | _=>none)
 | .fn _ _ _,.nilf=>bif Jt P t then some false else none
 | _,_=>none
theorem Qb {P:I6} {t u:Nat} (h:P.underlying t=some (.pointer u)):P.underlying t=some (.pointer (P.pointee t)):=by
 have:P.pointee t=u:=by unfold Program.pointee;rw [h]
 rw [this];exact h
section
variable {P:I6} {nx n:Nat} {ρ:Pl} {E:Tr CV} {a:Act} {e:B0} {H:Hp} {G:A2}
theorem fj {t t':Nat} {x y:I7} {cx cy:CV} {vx vy:Value} {b:Bool} (h:wk P t cx cy=some b) (kx:Kn nx ρ cx vx) (ky:Kn nx ρ cy vy) (hx:e.ev x=some vx) (hy:e.ev y=some vy) :
 (∀ ty,Qy P (.binOp .eql t x y t') ty e H G (.bool b))∧(∀ ty,Qy P (.binOp .neq t x y t') ty e H G (.bool (not b))):=by
 unfold wk at h;split at h
 · rename_i p q;split at h
   · rename_i hu;cases h;rw [qZ.1 kx.2] at hx;rw [qZ.1 ky.2] at hy;have e1:(bif p then q else not q)=decide (p=q):=by cases p <;> cases q <;> rfl
     refine ⟨fun ty=>by rw [e1];exact Pd hu hx hy,fun ty=>?_⟩;rw [e1,Lg];exact Yr hu hx hy
   cases h
 · rename_i l m;split at h
   · rename_i N hN;split at h
     · rename_i xs hxs;split at h
       · rename_i ys hys;rcases tA h with ⟨h1,h2⟩ | ⟨_,h2⟩
         · cases h2;rw [aF] at h1;obtain ⟨vs,k1,e1⟩:=sR.1 kx.2;obtain ⟨us,k2,e2⟩:=sR.1 ky.2;have kl1:KL nx ρ l vs:=⟨kx.1,k1⟩
           have kl2:KL nx ρ m us:=⟨ky.1,k2⟩
           have g1:=FN kl1 hxs;have g2:=FN kl2 hys;rw [e1,g1] at hx;rw [e2,g2] at hy;rw [fh];have hT:=VL hN;refine ⟨fun ty=>Yy xs ys hT hx hy (aJ h1.1) (aJ h1.2),fun ty=>?_⟩;rw [Lg];exact Pf xs ys hT hx hy (aJ h1.1) (aJ h1.2)
         cases h2
       cases h
     cases h
   cases h
 · rename_i t1 o1 n1 s1 c1;split at h
   · rename_i q hT;obtain ⟨E',sz⟩:=q;cases h;have e2:=oF.1 ky.2;subst e2;have hs:∃ c',vx=.slice (some ⟨(ρ t1).1,o1,none⟩) n1 c':=by
      cases c1 with
      | some c=>exact ⟨c,(kS.1 kx.2).1⟩
      | none=>obtain ⟨c,h1,_⟩:=nE.1 kx.2;exact ⟨c,h1⟩
     obtain ⟨c',rfl⟩:=hs;refine ⟨fun ty=>?_,fun ty=>?_⟩
     · have:=gN (t':=t') (ty:=ty) (H:=H) (G:=G) (xH hT) hx hy;simpa using this
     have:=Fu (t':=t') (ty:=ty) (H:=H) (G:=G) (xH hT) hx hy;simpa using this
   cases h
 · split at h
   · rename_i q hT;obtain ⟨E',sz⟩:=q;cases h;have e1:=oF.1 kx.2;have e2:=oF.1 ky.2;subst e1 e2;refine ⟨fun ty=>?_,fun ty=>?_⟩
     · have:=gN (t':=t') (ty:=ty) (H:=H) (G:=G) (xH hT) hx hy;simpa using this
     have:=Fu (t':=t') (ty:=ty) (H:=H) (G:=G) (xH hT) hx hy;simpa using this
   cases h
 · split at h
   · rename_i u hu;cases h;have e1:=rO.1 kx.2;have e2:=DV.nilp.1 ky.2;subst e1 e2;exact ⟨fun ty=>Lh (Qb hu) hx hy,fun ty=>Li (Qb hu) hx hy⟩
   cases h
 · split at h
   · rename_i u hu;cases h;have e1:=DV.nilp.1 kx.2;have e2:=DV.nilp.1 ky.2;subst e1 e2;exact ⟨fun ty=>Lh (Qb hu) hx hy,fun ty=>Li (Qb hu) hx hy⟩
   cases h
 · rcases tA h with ⟨h1,h2⟩ | ⟨_,h2⟩
   · cases h2;obtain ⟨xs,ys,_,_,e1⟩:=DV.fn.1 kx.2;have e2:vy=.nilFunc:=ky.2;subst e1 e2;exact ⟨fun ty=>Vb h1 hx hy,fun ty=>Vc h1 hx hy⟩
   cases h2
 cases h
end
section gen
variable {κ:Type} [DecidableEq κ] [A7 κ]
def Vm (eq:κ→κ→Bool) (k:κ) (l:List (κ×Int)):J0 Int:=List.rec none (fun x _ ih=>bif eq x.1 k then some x.2 else ih) l
def VM (eq:κ→κ→Bool) (k:κ) (v:Int) (l:List (κ×Int)):List (κ×Int):=List.rec [(k,v)] (fun x xs ih=>bif eq x.1 k then (x.1,v) :: xs else x :: ih) l
theorem Qc {eq:κ→κ→Bool} (he:∀ a b,eq a b=decide (a=b)) (k:κ) (l:List (κ×Int)):Vm eq k l=A9 l k:=by
 induction l with
 | nil=>rfl
 | cons x l ih =>
   show (bif eq x.1 k then some x.2 else Vm eq k l)=_;rw [he,ih];by_cases h:x.1=k
   · simp [A9,h]
   simp [A9,h]
theorem ZT {eq:κ→κ→Bool} (he:∀ a b,eq a b=decide (a=b)) (k:κ) (v:Int) (l:List (κ×Int)):VM eq k v l=Bk l k v:=by
 induction l with
 | nil=>rfl
 | cons x l ih =>
   obtain ⟨k',u⟩:=x;show (bif eq k' k then (k',v) :: l else (k',u) :: VM eq k v l)=_;rw [he,ih];by_cases h:k'=k
   · simp [Bk,h]
   simp [Bk,h]
end gen
def ii (a b:K4):Bool:=On a.c b.c && (On a.b b.b && (On a.a b.a && On a.op b.op))
theorem AW (a b:K4):ii a b=decide (a=b):=by
 cases a;cases b;simp only [ii,yY];rw [Bool.eq_iff_iff];simp only [aF,aO,K4.mk.injEq];constructor
 · rintro ⟨h1,h2,h3,h4⟩;exact ⟨h4,h3,h2,h1⟩
 rintro ⟨h1,h2,h3,h4⟩;exact ⟨h4,h3,h2,h1⟩
def OW (x:CV):J0 Int:=match x with
 | .int .i64 n=>some n
 | _=>none
def OX (x:CV):J0 K4:=match x with
 | .agg (.cons (.int .i64 a) (.cons (.int .i64 b) (.cons (.int .i64 c) (.cons (.int .i64 d) .nil))))=>some ⟨a,b,c,d⟩
 | _=>none
def z0 (P:I6) (et:Nat):Bool:=match P.info? et with
 | some i=>match i.zero with | some (.int .i64 n)=>On n 0 | _=>false
 | none=>false
theorem bj {P:I6} {et:Nat} (h:z0 P et=true) (w:I8):(zeroValue et).run P w=.ok (.int .i64 0) w:=by
 unfold z0 at h;split at h
 · rename_i i hi;split at h
   · rename_i n hz;rw [yY,aO] at h;subst h;simp [zeroValue,typeInfo,hi,hz]
   cases h
 cases h
def fk (P:I6) (T:Nat):Bool:=match P.underlying T with
 | some (.map kt et)=>match P.underlying kt with | some (.int .i64)=>z0 P et | _=>false
 | _=>false
def fl (P:I6) (T:Nat):Bool:=match P.underlying T with
 | some (.map kt et)=>match qf P kt with | some n=>Nat.beq n 4 && z0 P et | none=>false
 | _=>false
theorem AX {P:I6} {T:Nat} (h:fk P T=true):∃ kt,F4 P T kt Int:=by
 unfold fk at h;split at h
 · rename_i kt et hT;split at h
   · rename_i hk;exact ⟨kt,⟨et,hT,bj h⟩,H4.int hk⟩
   cases h
 cases h
theorem AY {P:I6} {T:Nat} (h:fl P T=true):∃ kt,F4 P T kt K4:=by
 unfold fl at h;split at h
 · rename_i kt et hT;split at h
   · rename_i n hk;rw [aF] at h;have:=aJ h.1;subst this;exact ⟨kt,⟨et,hT,bj h.2⟩,H4.k4 (VL hk)⟩
   cases h
 cases h
def ij (c:Bool) (r:J0 Int):CV:=bif c then .tup (.cons (.int .i64 (match r with | some v=>v | none=>0)) (.cons (.bool (match r with | some _=>true | none=>false)) .nil)) else .int .i64 (match r with | some v=>v | none=>0)
section
variable {P:I6} {nx n:Nat} {ρ:Pl} {w:I8}
theorem Qd {x:CV} {n:Int} {v:Value} (h:OW x=some n) (hk:Kn nx ρ x v):v=A7.val n:=by
 unfold OW at h;split at h
 · cases h;exact iU.1 hk.2
 cases h
theorem Qe {x:CV} {n:K4} {v:Value} (h:OX x=some n) (hk:Kn nx ρ x v):v=A7.val n:=by
 unfold OX at h;split at h
 · cases h;obtain ⟨vs,h1,rfl⟩:=sR.1 hk.2;obtain ⟨v1,r1,rfl,g1,h1⟩:=nJ.1 h1;obtain ⟨v2,r2,rfl,g2,h1⟩:=nJ.1 h1;obtain ⟨v3,r3,rfl,g3,h1⟩:=nJ.1 h1;obtain ⟨v4,r4,rfl,g4,h1⟩:=nJ.1 h1;rw [DL.nil.1 h1,iU.1 g1,iU.1 g2,iU.1 g3,iU.1 g4];rfl
 cases h
theorem Tw {t:Nat} {v:Value} (hk:Kn nx ρ (.mp t) v):v=.map (some (ρ t).1):=DV.mp.1 hk.2
theorem VN {c:Bool} {r:J0 Int}:Kn nx ρ (ij c r) (if c then .tuple #[.int .i64 (r.getD 0),.bool r.isSome] else .int .i64 (r.getD 0)):=by
 cases c with
 | false=>cases r <;> exact ⟨I3,U⟩
 | true =>
   cases r with
   | none=>exact ⟨⟨I3,I3,I3⟩,rN.2 ⟨_,nJ.2 ⟨_,_,U,U,nJ.2 ⟨_,_,U,U,U⟩⟩,U⟩⟩
   | some v=>exact ⟨⟨I3,I3,I3⟩,rN.2 ⟨_,nJ.2 ⟨_,_,U,U,nJ.2 ⟨_,_,U,U,U⟩⟩,U⟩⟩
variable {κ:Type} [DecidableEq κ] [A7 κ] {T kt:I9}
theorem Jf {r:Nat} {xs:List (κ×Int)} {k:κ} (hT:F4 P T kt κ) (hb:w.heap[r]?=some (A4 xs)) (c:Bool):(Instr.lookup T (.map (some r)) (A7.val k) c).run P w =
 .ok (if c then .tuple #[.int .i64 ((A9 xs k).getD 0),.bool (A9 xs k).isSome] else .int .i64 ((A9 xs k).getD 0)) w:=by
 obtain ⟨⟨et,hu,hz⟩,hk⟩:=hT;simp only [Instr.lookup,bK,bB hu,aR,gC (P:=P) hb,bO,hk.check,hk.look];cases hm:A9 xs k with
 | none=>rw [(zZ xs k).1 hm];cases c <;> simp [hz]
 | some v=>obtain ⟨i,h1,_⟩:=Dr xs k hm;rw [h1];cases c <;> simp
end
def ik (E:Tr CV):J0 I7→J0 Int
 | none=>some 0
 | some y=>match vO E y with | some (.int _ m)=>some m | _=>none
def hiC (E:Tr CV) (n:Nat):J0 I7→J0 Int
 | none=>some n
 | some y=>match vO E y with | some (.int _ m)=>some m | _=>none
def fm (t o n sz:Nat) (c:J0 Nat) (l h:Int):J0 CV:=
 bif zY 0 l && zY l h then
  (match c with
  | some c=>bif zY h c then
   (bif Nat.beq c l.toNat then some (.sl t o (Nat.sub h.toNat l.toNat) sz (some 0)) else some (.sl t (Nat.add o (Nat.mul l.toNat sz)) (Nat.sub h.toNat l.toNat) sz (some (Nat.sub c l.toNat)))) else none
  | none=>bif zY h n then
   (bif Nat.beq l.toNat 0 then some (.sl t o h.toNat sz none) else
    bif zY n l then some .sle else some (.sl t (Nat.add o (Nat.mul l.toNat sz)) (Nat.sub h.toNat l.toNat) sz none)) else none)
 else none
def bn (m:Int) (n:Nat):J0 Nat→Bool
 | some c=>zY m c
 | none=>zY m n
def WG (E:Tr CV):Op→J0 Nat
 | .load _ x=>match vO E x with | some (.ptr t _)=>some t | _=>none
 | .lookup _ x _ _=>match vO E x with | some (.mp t)=>some t | _=>none
 | _=>none
def qv2 (P:I6) (E:Tr CV) (h:Tr CB) (c:I7) (x:I7) (y:I7):J0 CV:=match vO E c with | some (.bool b)=>vO E (bif b then x else y) | _=>none
def qv3 (P:I6) (E:Tr CV) (h:Tr CB) (x:I7):J0 CV:=match vO E x with | some (.bool b)=>some (.bool (not b)) | _=>none
def qv4 (P:I6) (E:Tr CV) (h:Tr CB) (x:I7):J0 CV:=match vO E x with | some (.int k m)=>some (.int k (wr k (0 - m))) | _=>none
def qv5 (P:I6) (E:Tr CV) (h:Tr CB) (o:BinOp) (t:I9) (x:I7) (y:I7):J0 CV:=match vO E x with
 | some (.int k m)=>match vO E y with
   | some (.int k' n)=>match sh o k m n with
     | some c=>some c
     | none=>bif XB k k' then bo o k m n else none
   | _=>none
 | some a=>match vO E y with
   | some b=>match wk P t a b with
     | some r=>(match o with | .eql=>some (.bool r) | .neq=>some (.bool (not r)) | _=>none)
     | none=>none
   | none=>none
 | none=>none
def qv6 (P:I6) (E:Tr CV) (h:Tr CB) (s:I9) (t:I9) (x:I7):J0 CV:=match P.underlying t with
 | some (.int k')=>match P.underlying s with
   | some _=>match vO E x with | some (.int _ m)=>some (.int k' (wr k' m)) | _=>none
   | none=>none
 | _=>none
def qv7 (P:I6) (E:Tr CV) (h:Tr CB) (x:I7) (i:Nat):J0 CV:=match vO E x with | some (.tup l)=>Tm l i | _=>none
def qv8 (P:I6) (E:Tr CV) (h:Tr CB) (x:I7):J0 CV:=match vO E x with
 | some (.ptr t o)=>some (.ptr t o)
 | some (.mp t)=>some (.mp t)
 | some (.fn f a b)=>some (.fn f a b)
 | some (.yl t)=>some (.yl t)
 | _=>none
def qv9 (P:I6) (E:Tr CV) (h:Tr CB) (s:I9) (x:I7) (f:Nat):J0 CV:=match vO E x with
 | some (.ptr t o)=>match wg P s f with | some k=>some (.ptr t (Nat.add o k)) | none=>none
 | _=>none
def ml (P:I6) (E:Tr CV) (h:Tr CB) (T:I9) (x:I7) (i:Nat):J0 CV:=match vO E x with
 | some (.agg l)=>match P.underlying T with
   | some (.struct ⟨fs⟩)=>match Ur fs i with
     | some fd=>bif wZ P fd.type then Tm l fd.offset else (match ig P fd.type with | some k=>some (.agg (Ii k (Ih fd.offset l))) | none=>none)
     | none=>none
   | _=>none
 | _=>none
def mn (P:I6) (E:Tr CV) (h:Tr CB) (T:I9) (x:I7):J0 CV:=match vO E x with
 | some (.ptr t o)=>match h.get t with
   | some (.cells l _ _ _)=>bif wZ P T then VE l o else
     (match ig P T with
     | some k=>bif Nat.beq (uK (vC l o k)) k then some (.agg (vC l o k)) else none
     | none=>none)
   | _=>none
 | _=>none
def mq (P:I6) (E:Tr CV) (h:Tr CB) (f:Nat) (xs:List I7) (ys:List I7):J0 CV:=match OT E xs with
 | some a=>match OT E ys with | some b=>some (.fn f a b) | none=>none
 | none=>none
def mu (P:I6) (E:Tr CV) (h:Tr CB) (T:I9) (x:I7) (i:I7):J0 CV:=match vO E i with
 | some (.int _ m)=>match vO E x with
   | some (.sl t o n sz _)=>match BK P T with
     | some (_,sz')=>bif Nat.beq sz sz' && (zY 0 m && not (zY n m)) then some (.ptr t (Nat.add o (Nat.mul m.toNat sz'))) else none
     | none=>none
   | some (.ptr t o)=>match qe P T with
     | some (n,_,sz)=>bif zY 0 m && not (zY n m) then some (.ptr t (Nat.add o (Nat.mul m.toNat sz))) else none
     | none=>none
   | _=>none
 | _=>none
def mw (P:I6) (E:Tr CV) (h:Tr CB) (T:I9) (x:I7) (i:I7):J0 CV:=match vO E i with
 | some (.int _ m)=>match vO E x with
   | some (.agg l)=>match qe P T with
     | some (n,E',sz)=>bif Nat.beq sz 1 && (wZ P E' && (zY 0 m && not (zY n m))) then Tm l m.toNat else
      bif yH P E' sz && (Nat.ble 1 sz && (zY 0 m && not (zY n m))) then some (.agg (Ii sz (Ih (Nat.mul m.toNat sz) l))) else none
     | none=>none
   | _=>none
 | _=>none
def mx (P:I6) (E:Tr CV) (h:Tr CB) (T:I9) (x:I7) (lo:J0 I7) (hi:J0 I7):J0 CV:=match vO E x with
 | some (.sl t o n sz c)=>match BK P T with
   | some (_,sz')=>bif Nat.beq sz sz' then (match ik E lo with
     | some l=>(match hiC E n hi with | some h=>fm t o n sz c l h | none=>none)
     | none=>none) else none
   | none=>none
 | some .nils=>match BK P T with
   | some _=>(match ik E lo with
     | some l=>(match hiC E 0 hi with | some h=>bif On l 0 && On h 0 then some .nils else none | none=>none)
     | none=>none)
   | none=>none
 | _=>none
def my (P:I6) (E:Tr CV) (h:Tr CB) (T:I9) (x:I7) (lo:J0 I7) (y:I7) (z:I7):J0 CV:=match vO E x with
 | some (.sl t o n sz c)=>match BK P T with
   | some (_,sz')=>bif Nat.beq sz sz' then (match ik E lo with
     | some l=>(match hiC E n (some y) with
       | some h=>(match vO E z with
         | some (.int _ m)=>bif zY 0 l && (zY l h && (zY h m && bn m n c)) then
          (bif Nat.beq m.toNat l.toNat then some (.sl t o (Nat.sub h.toNat l.toNat) sz (some 0)) else some (.sl t (Nat.add o (Nat.mul l.toNat sz)) (Nat.sub h.toNat l.toNat) sz (some (Nat.sub m.toNat l.toNat)))) else none
         | _=>none)
       | none=>none)
     | none=>none) else none
   | none=>none
 | some .nils=>match BK P T with
   | some _=>(match ik E lo with
     | some l=>(match hiC E 0 (some y) with
       | some h=>(match vO E z with
         | some (.int _ m)=>bif On l 0 && (On h 0 && On m 0) then some .nils else none
         | _=>none)
       | none=>none)
     | none=>none)
   | none=>none
 | _=>none
def mz (P:I6) (E:Tr CV) (h:Tr CB) (t:I9) (parts:List (Nat×I7)):J0 CV:=match P.underlying t with
 | some (.struct ⟨fs⟩)=>match wi P fs with
   | some pl=>match bh P t with
     | some z=>match Lj E pl (uK z) parts z with | some l=>some (.agg l) | none=>none
     | none=>none
   | none=>none
 | some (.array n E')=>match VJ P E' with
   | some sz=>match bh P t with
     | some z=>match Lj E (wJ n sz) (uK z) parts z with | some l=>some (.agg l) | none=>none
     | none=>none
   | none=>none
 | _=>none
def ng (P:I6) (E:Tr CV) (h:Tr CB) (x:I7) (T:I9):J0 CV:=match vO E x with
 | some (.sl _ _ n _ _)=>match BK P T with | some _=>some (.int .i64 n) | none=>none
 | some .nils=>match BK P T with | some _=>some (.int .i64 0) | none=>none
 | some .sle=>match BK P T with | some _=>some (.int .i64 0) | none=>none
 | some (.str s)=>match P.underlying T with | some .string=>some (.int .i64 (uK s)) | _=>none
 | _=>none
def nh (P:I6) (E:Tr CV) (h:Tr CB) (x:I7) (T:I9):J0 CV:=match vO E x with
 | some (.sl _ _ _ _ (some c))=>match BK P T with | some _=>some (.int .i64 c) | none=>none
 | some .nils=>match BK P T with | some _=>some (.int .i64 0) | none=>none
 | _=>none
def nk (P:I6) (E:Tr CV) (h:Tr CB) (x:I7) (y:I7):J0 CV:=match vO E x with
 | some (.int k m)=>match vO E y with | some (.int k' n)=>bif XB k k' then some (.int k (bif zY m n then m else n)) else none | _=>none
 | _=>none
def nl (P:I6) (E:Tr CV) (h:Tr CB) (x:I7) (y:I7):J0 CV:=match vO E x with
 | some (.int k m)=>match vO E y with | some (.int k' n)=>bif XB k k' then some (.int k (bif zY n m then m else n)) else none | _=>none
 | _=>none
def qg (P:I6) (E:Tr CV) (h:Tr CB) (T:I9) (x i:I7) (c:Bool):J0 CV:=match vO E x with
 | some (.mp t)=>match vO E i with
   | some k=>match h.get t with
     | some (.mapI l _)=>(match OW k with | some n=>bif fk P T then some (ij c (Vm On n l)) else none | none=>none)
     | some (.mapK l _)=>(match OX k with | some n=>bif fl P T then some (ij c (Vm ii n l)) else none | none=>none)
     | _=>none
   | none=>none
 | _=>none
def qv (P:I6) (E:Tr CV) (h:Tr CB):Op→J0 CV
 | .move x=>vO E x
 | .assign x=>vO E x
 | .pick c x y=>qv2 P E h c x y
 | .unOp .not _ x=>qv3 P E h x
 | .unOp .neg _ x=>qv4 P E h x
 | .binOp o t x y _=>qv5 P E h o t x y
 | .convert s t x=>qv6 P E h s t x
 | .extract x i=>qv7 P E h x i
 | .nilCheck x=>qv8 P E h x
 | .fieldAddr s x f=>qv9 P E h s x f
 | .field T x i=>ml P E h T x i
 | .load T x=>mn P E h T x
 | .makeFunc (.func f) ⟨xs⟩ ⟨ys⟩=>mq P E h f xs ys
 | .indexAddr T x i=>mu P E h T x i
 | .index T x i=>mw P E h T x i
 | .slice T x lo hi none=>mx P E h T x lo hi
 | .slice T x lo (some y) (some z)=>my P E h T x lo y z
 | .build t ⟨parts⟩=>mz P E h t parts
 | .call ⟨.builtin .len,⟨[x]⟩,⟨[T]⟩⟩=>ng P E h x T
 | .call ⟨.builtin .cap,⟨[x]⟩,⟨[T]⟩⟩=>nh P E h x T
 | .call ⟨.builtin .min,⟨[x,y]⟩,_⟩=>nk P E h x y
 | .call ⟨.builtin .max,⟨[x,y]⟩,_⟩=>nl P E h x y
 | .lookup T x i c=>qg P E h T x i c
 | _=>none
def Yd (P:I6) (op:Op) (nx:Nat) (ρ:Pl) (E:Tr CV) (ob:Nat→Obj) (a:Act) (c:CV):Prop:=
 ∃ v,Kn nx ρ c v∧∀ (w:I8),(∀ t,WG E op=some t→w.heap[(ρ t).1]?=some (ob t))→∀ (dst:J0 Tmp) (ty:I9) (pos:String) (after:Array Edge) (g:J0 (Nat×Bool)),(execOp a.eval ⟨dst,op,ty,pos,after,g⟩).run P w=.ok (.value v) w
section
variable {P:I6} {op:Op} {nx n:Nat} {ρ:Pl} {E:Tr CV} {h:Tr CB} {ob:Nat→Obj} {a:Act} {c:CV}
theorem Yd.pure {v:Value} (hk:Kn nx ρ c v) (hq:∀ ty,Qy P op ty (eA a) [] (fun _=>none) v):Yd P op nx ρ E ob a c:=
 ⟨v,hk,fun w _ dst ty pos after g=>hq ty a w dst pos after g (lookN a w)⟩
abbrev eY:=@Yd.pure
theorem Yd.read {v:Value} {t:Nat} (ht:WG E op=some t) (hk:Kn nx ρ c v) (hq:∀ ty,Qy P op ty (eA a) [(0,some (ρ t).1,ob t)] (fun _=>none) v):Yd P op nx ρ E ob a c:=
 ⟨v,hk,fun w hw dst ty pos after g=>hq ty a w dst pos after g (md a (hw t ht))⟩
theorem Ah {k:IntKind} {m:Int}:Kn nx ρ (.int k m) (.int k m):=⟨I3,U⟩
theorem Qf {b:Bool}:Kn nx ρ (.bool b) (.bool b):=⟨I3,U⟩
theorem ZU {t o m sz:Nat} {c:J0 Nat} {l hi:Int} {r:CV} {v:Value} (hv:Kn nx ρ (.sl t o m sz c) v) (hr:fm t o m sz c l hi=some r) :
 0≤l∧l≤hi∧∃ c',v=.slice (some ⟨(ρ t).1,o,none⟩) m c'∧hi.toNat≤c'∧Kn nx ρ r (.slice (if c'=l.toNat then some ⟨(ρ t).1,o,none⟩ else (some (⟨(ρ t).1,o,none⟩:Addr)).map (·.add (l.toNat*sz))) (hi.toNat - l.toNat) (c' - l.toNat)):=by
 unfold fm at hr;cases hb:zY 0 l && zY l hi with
 | false=>rw [hb] at hr;cases hr
 | true =>
   rw [hb] at hr;simp only [mK] at hr;simp only [aF,wF,aO] at hb;obtain ⟨h1,h2⟩:=hb;refine ⟨h1,h2,?_⟩;have hlh:l.toNat≤hi.toNat:=sU;cases c with
   | some c =>
     obtain ⟨e1,e2,e3,e4⟩:=kS.1 hv.2;simp only at hr;cases hb2:zY hi c with
     | false=>rw [hb2] at hr;cases hr
     | true =>
       rw [hb2] at hr;simp only [mK] at hr;simp only [wF,aO] at hb2;have hhc:hi.toNat≤c:=sU;refine ⟨c,e1,hhc,?_⟩;cases hb3:Nat.beq c l.toNat with
       | true =>
         rw [hb3] at hr;cases hr;have:=aJ hb3;rw [aE this];refine ⟨hv.1,kS.2 ⟨?_,by omega,?_,by simp [maxLen]⟩⟩
         · rw [show c - l.toNat=0 by omega];rfl
         · show hi.toNat - l.toNat≤0;omega
       | false =>
         rw [hb3] at hr;cases hr;have hne:c≠l.toNat:=fun e=>by rw [e] at hb3;simp at hb3
         rw [aC hne];refine ⟨hv.1,kS.2 ⟨?_,?_,?_,?_⟩⟩
         · show Value.slice (some (Addr.add ⟨(ρ t).1,o,none⟩ (l.toNat*sz))) _ _=_;rw [add_lit];rfl
         · show o+l.toNat*sz+(c - l.toNat)*sz≤_;have:l.toNat*sz+(c - l.toNat)*sz=c*sz:=by rw [←fC];congr 1;omega
           omega
         · show hi.toNat - l.toNat≤c - l.toNat;omega
         · show c - l.toNat≤_;omega
   | none =>
     obtain ⟨c,e1,e2,e3,e4⟩:=nE.1 hv.2;simp only at hr;cases hb2:zY hi m with
     | false=>rw [hb2] at hr;cases hr
     | true =>
       rw [hb2] at hr;simp only [mK] at hr;simp only [wF,aO] at hb2;refine ⟨c,e1,by omega,?_⟩;cases hb3:Nat.beq l.toNat 0 with
       | true =>
         rw [hb3] at hr;cases hr;have h0:=aJ hb3;rw [h0];refine ⟨hv.1,nE.2 ⟨c,?_,e2,by omega,e4⟩⟩;show Value.slice (if c=0 then _ else some (Addr.add ⟨(ρ t).1,o,none⟩ (0*sz))) _ _=_;rw [oC,add_lit];simp
       | false =>
         rw [hb3] at hr;simp only [pO] at hr;cases hb4:zY m l with
         | true =>
           rw [hb4] at hr;cases hr;simp only [wF,aO] at hb4;exact ⟨I3,_,_,by rw [show hi.toNat - l.toNat=0 by omega]⟩
         | false =>
           rw [hb4] at hr;cases hr;simp only [wF,fA] at hb4;rw [aC (by omega)];refine ⟨hv.1,nE.2 ⟨c - l.toNat,?_,?_,?_,?_⟩⟩
           · show Value.slice (some (Addr.add ⟨(ρ t).1,o,none⟩ (l.toNat*sz))) _ _=_;rw [add_lit];rfl
           · show o+l.toNat*sz+(c - l.toNat)*sz=_;have:l.toNat*sz+(c - l.toNat)*sz=c*sz:=by rw [←fC];congr 1;omega
             omega
           · show hi.toNat - l.toNat≤_;omega
           omega
theorem AZ (hs:B4 ρ E nx n a) {lo:J0 I7} {l:Int} (h:ik E lo=some l) (h0:0≤l):mi (eA a) 0 lo l.toNat:=by
 cases lo with
 | none=>cases h;rfl
 | some y =>
   unfold ik at h;simp only at h;split at h
   · rename_i k m hy;cases h;obtain ⟨v,e1,k1⟩:=tD hs hy;rw [iU.1 k1.2] at e1;exact ⟨k,by rw [cN h0];exact e1⟩
   cases h
theorem BA (hs:B4 ρ E nx n a) {N:Nat} {lo:J0 I7} {l:Int} (h:hiC E N lo=some l) (h0:0≤l):mi (eA a) N lo l.toNat:=by
 cases lo with
 | none=>cases h;rfl
 | some y =>
   unfold hiC at h;simp only at h;split at h
   · rename_i k m hy;cases h;obtain ⟨v,e1,k1⟩:=tD hs hy;rw [iU.1 k1.2] at e1;exact ⟨k,by rw [cN h0];exact e1⟩
   cases h
end
section
variable {P:I6} {op:Op} {nx n:Nat} {ρ:Pl} {E:Tr CV} {h:Tr CB} {ob:Nat→Obj} {a:Act} {c:CV}
theorem Tx {l:CV} {vs:List Value} (h:KL nx ρ l vs):Kn nx ρ (.agg l) (.agg vs.toArray):=⟨h.1,sR.2 ⟨vs,h.2,U⟩⟩
theorem Jg {l:CV} {v:Value} (h:Kn nx ρ (.agg l) v):∃ vs,KL nx ρ l vs∧v=.agg vs.toArray:=by
 obtain ⟨vs,h1,h2⟩:=sR.1 h.2;exact ⟨vs,⟨h.1,h1⟩,h2⟩
theorem IL {l:CV} {v:Value} (h:Kn nx ρ (.tup l) v):∃ vs,KL nx ρ l vs∧v=.tuple vs.toArray:=by
 obtain ⟨vs,h1,h2⟩:=rN.1 h.2;exact ⟨vs,⟨h.1,h1⟩,h2⟩
theorem No {f:Nat} {x y:CV} {v:Value} (h:Kn nx ρ (.fn f x y) v):∃ xs ys,KL nx ρ x xs∧KL nx ρ y ys∧v=.func (.func f) xs.toArray ys.toArray:=by
 obtain ⟨xs,ys,h1,h2,h3⟩:=DV.fn.1 h.2;exact ⟨xs,ys,⟨h.1.1,h1⟩,⟨h.1.2,h2⟩,h3⟩
theorem Jh {t o m sz:Nat} {cc:J0 Nat} {v:Value} (h:Kn nx ρ (.sl t o m sz cc) v):∃ c',v=.slice (some ⟨(ρ t).1,o,none⟩) m c':=by
 cases cc with
 | some c=>exact ⟨c,(kS.1 h.2).1⟩
 | none=>obtain ⟨c,h1,_⟩:=nE.1 h.2;exact ⟨c,h1⟩
theorem Hh {m:Int} {N:Nat} (hb:(zY 0 m && not (zY N m))=true):0≤m∧m<N:=by
 simp only [aF,eW,wF,aO,fA] at hb;omega
theorem BB {s:CV} {v:Value} (h:Kn nx ρ (.str s) v):∃ bs:List UInt8,v=.string ⟨bs.toArray⟩∧KL nx ρ s (bs.map fun b=>Value.int .u8 b.toNat):=by
 obtain ⟨vs,bs,h1,h2,h3⟩:=h.2;subst h2;exact ⟨bs,h3,h.1,h1⟩
theorem LJ (hs:B4 ρ E nx n a) (hm:∀ t b,WG E op=some t→h.get t=some b→DB nx ρ (ρ t).2 b (ob t)) (hq:qv P E h op=some c):Yd P op nx ρ E ob a c:=by
 unfold qv at hq;unfold qv2 qv3 qv4 qv5 qv6 qv7 qv8 qv9 ml mn mq mu mw mx my mz ng nh nk nl at hq;split at hq
 · -- move
   obtain ⟨v,e1,k1⟩:=tD hs hq;exact eY k1 fun ty=>dF e1
 · obtain ⟨v,e1,k1⟩:=tD hs hq;exact eY k1 fun ty=>jL e1
 · -- pick
   split at hq
   · rename_i b hb;obtain ⟨v,e1,k1⟩:=tD hs hb;obtain ⟨u,e2,k2⟩:=tD hs hq;rw [qZ.1 k1.2] at e1;exact eY k2 fun ty=>Qy.pick e1 e2
   cases hq
 · -- not
   split at hq
   · rename_i b hb;cases hq;obtain ⟨v,e1,k1⟩:=tD hs hb;rw [qZ.1 k1.2] at e1;exact eY Qf fun ty=>Qy.not e1
   cases hq
 · -- neg
   split at hq
   · rename_i k m hb;cases hq;obtain ⟨v,e1,k1⟩:=tD hs hb;rw [iU.1 k1.2] at e1;refine eY Ah fun ty=>?_;rw [Tt];exact nI e1
   cases hq
 · -- binOp
   split at hq
   · rename_i k m hx;split at hq
     · rename_i k' n' hy;obtain ⟨v,e1,k1⟩:=tD hs hx;obtain ⟨u,e2,k2⟩:=tD hs hy;rw [iU.1 k1.2] at e1;rw [iU.1 k2.2] at e2;split at hq
       · rename_i c' hc;cases hq;obtain ⟨v',hk,hq⟩:=mh (P:=P) (H:=[]) (G:=fun _=>none) (nx:=nx) (ρ:=ρ) e1 e2 hc;exact eY hk hq
       rcases tA hq with ⟨hk,hr1⟩ | ⟨_,hr1⟩
       · have:=Lz hk;subst this;obtain ⟨v',hk,hr1⟩:=mg (P:=P) (H:=[]) (G:=fun _=>none) (nx:=nx) (ρ:=ρ) e1 e2 hr1;exact eY hk hr1
       cases hr1
     cases hq
   · rename_i ca hne hx;split at hq
     · rename_i cb hy;split at hq
       · rename_i r hr;obtain ⟨v,e1,k1⟩:=tD hs hx;obtain ⟨u,e2,k2⟩:=tD hs hy;have he:=fun t'=>fj (t':=t') (H:=[]) (G:=fun _=>none) hr k1 k2 e1 e2;split at hq
         · cases hq;exact eY Qf (he _).1
         · cases hq;exact eY Qf (he _).2
         cases hq
       cases hq
     cases hq
   cases hq
 · -- convert
   split at hq
   · rename_i k' ht;split at hq
     · rename_i d hd;split at hq
       · rename_i k m hx;cases hq;obtain ⟨v,e1,k1⟩:=tD hs hx;rw [iU.1 k1.2] at e1;refine eY Ah fun ty=>?_;rw [Tt];exact lS (by rw [hd];rfl) ht e1
       cases hq
     cases hq
   cases hq
 · -- extract
   split at hq
   · rename_i l hx;obtain ⟨v,e1,k1⟩:=tD hs hx;obtain ⟨vs,k2,rfl⟩:=IL k1;obtain ⟨u,e2,k3⟩:=Lf k2 hq;exact eY k3 fun ty=>Qy.extract e1 e2
   cases hq
 · -- nilCheck
   split at hq
   · rename_i t o hx;cases hq;obtain ⟨v,e1,k1⟩:=tD hs hx;have e2:=rO.1 k1.2;subst e2;exact eY k1 fun ty=>qK e1
   · rename_i t hx;cases hq;obtain ⟨v,e1,k1⟩:=tD hs hx;have e2:=DV.mp.1 k1.2;subst e2;exact eY k1 fun ty=>Ys e1
   · rename_i f x y hx;cases hq;obtain ⟨v,e1,k1⟩:=tD hs hx;obtain ⟨xs,ys,_,_,rfl⟩:=No k1;exact eY k1 fun ty=>Yt e1
   · rename_i t hx;cases hq;obtain ⟨v,e1,k1⟩:=tD hs hx;have e2:v=.func (.yield (ρ t).1) #[] #[]:=k1.2;subst e2;exact eY k1 fun ty=>Yu e1
   cases hq
 · -- fieldAddr
   split at hq
   · rename_i t o hx;split at hq
     · rename_i k hk;cases hq;obtain ⟨v,e1,k1⟩:=tD hs hx;have e2:=rO.1 k1.2;subst e2;exact eY (c:=.ptr t (Nat.add o k)) ⟨k1.1,U⟩ fun ty=>fT (fe hk) e1
     cases hq
   cases hq
 · -- field
   split at hq
   · rename_i l hx;obtain ⟨v,e1,k1⟩:=tD hs hx;obtain ⟨vs,k2,rfl⟩:=Jg k1;split at hq
     · rename_i fs hu;split at hq
       · rename_i fd hf;rw [Ab] at hf;rcases tA hq with ⟨h1,hr1⟩ | ⟨_,hr1⟩
         · obtain ⟨u,e2,k3⟩:=Lf k2 hr1;exact eY k3 fun ty=>OU hu (by simpa using hf) h1 e1 e2
         split at hr1
         · rename_i k hk;cases hr1;exact eY (Tx (To k (Tn fd.offset k2))) fun ty=>OV hu (by simpa using hf) (VK hk) e1
         cases hr1
       cases hq
     cases hq
   cases hq
 · -- load
   rename_i T x;split at hq
   · rename_i t o hx;split at hq
     · rename_i l bt op' st hb;obtain ⟨v,e1,k1⟩:=tD hs hx;have e2:=rO.1 k1.2;subst e2;have hrd:WG E (.load T x)=some t:=by show (match vO E x with | some (.ptr t _)=>some t | _=>none)=some t;rw [hx]
       obtain ⟨vs,junk,kl,eo,_,_⟩:=hm t _ hrd hb;rcases tA hq with ⟨h1,hr1⟩ | ⟨_,hr1⟩
       · obtain ⟨u,e2,k3⟩:=LH kl hr1;refine Yd.read hrd k3 fun ty=>jP 0 h1 e1 (by rw [eo];rfl) ?_;rw [bC (aW.1 e2).1];exact e2
       split at hr1
       · rename_i k hk;rcases tA hr1 with ⟨h2,hr2⟩ | ⟨_,hr2⟩
         · cases hr2;have kk:=Eh kl (aJ (by first | exact hb2 | exact h2 | exact hb | assumption));have hlen:=uU kk;rw [aJ h2] at hlen;refine Yd.read hrd (Tx kk) fun ty=>iG 0 (VK hk) e1 (by rw [eo];rfl) ?_ hlen.symm;have h3:o+k≤vs.length∨k=0:=by
            rw [bM,eK] at hlen;omega
           rcases h3 with h3 | h3
           · rw [hJ sU,fZ BM]
           subst h3;simp
         cases hr2
       cases hr1
     cases hq
   cases hq
 · -- makeFunc
   split at hq
   · rename_i x hx;split at hq
     · rename_i y hy;cases hq;obtain ⟨us,e1,k1⟩:=Qa hs hx;obtain ⟨vs,e2,k2⟩:=Qa hs hy;exact eY ⟨⟨k1.1,k2.1⟩,DV.fn.2 ⟨us,vs,k1.2,k2.2,U⟩⟩ fun ty=>mO e1 e2
     cases hq
   cases hq
 · -- indexAddr
   split at hq
   · rename_i k m hi;obtain ⟨vi,ei,ki⟩:=tD hs hi;rw [iU.1 ki.2] at ei;split at hq
     · rename_i t o N sz cc hx;split at hq
       · rename_i E' sz' hT;rcases tA hq with ⟨h1,hr1⟩ | ⟨_,hr1⟩
         · cases hr1;have h1':Nat.beq sz sz'=true∧(zY 0 m && not (zY N m))=true:=by simpa only [aF] using h1
           have:=aJ h1'.1;subst this;obtain ⟨v,e1,k1⟩:=tD hs hx;obtain ⟨c',rfl⟩:=Jh k1;exact eY (c:=.ptr t (Nat.add o (Nat.mul m.toNat sz))) ⟨k1.1,U⟩ fun ty=>oB (xH hT) e1 ei (Hh h1'.2)
         cases hr1
       cases hq
     · rename_i t o hx;split at hq
       · rename_i N E' sz hT;rcases tA hq with ⟨h1,hr1⟩ | ⟨_,hr1⟩
         · cases hr1;obtain ⟨v,e1,k1⟩:=tD hs hx;have e2:=rO.1 k1.2;subst e2;exact eY (c:=.ptr t (Nat.add o (Nat.mul m.toNat sz))) ⟨k1.1,U⟩ fun ty=>Vl (Tu hT).1 (Tu hT).2 e1 ei (Hh h1)
         cases hr1
       cases hq
     cases hq
   cases hq
 · -- index
   split at hq
   · rename_i k m hi;obtain ⟨vi,ei,ki⟩:=tD hs hi;rw [iU.1 ki.2] at ei;split at hq
     · rename_i l hx;split at hq
       · rename_i N E' sz hT;rcases tA hq with ⟨h1,hr1⟩ | ⟨_,hr1⟩
         · have h1':Nat.beq sz 1=true∧wZ P E'=true∧(zY 0 m && not (zY N m))=true:=by simpa only [aF] using h1
           have:=aJ h1'.1;subst this;obtain ⟨v,e1,k1⟩:=tD hs hx;obtain ⟨vs,k2,rfl⟩:=Jg k1;obtain ⟨u,e2,k3⟩:=Lf k2 hr1;exact eY k3 fun ty=>Qy.indexV (Tu hT).1 h1'.2.1 (Tu hT).2 e1 ei (Hh h1'.2.2) e2
         rcases tA hr1 with ⟨h2,hr2⟩ | ⟨_,hr2⟩
         · have h2':yH P E' sz=true∧Nat.ble 1 sz=true∧(zY 0 m && not (zY N m))=true:=by simpa only [aF] using h2
           cases hr2;obtain ⟨v,e1,k1⟩:=tD hs hx;obtain ⟨vs,k2,rfl⟩:=Jg k1;exact eY (Tx (To sz (Tn (Nat.mul m.toNat sz) k2))) fun ty=>IK (Tu hT).1 h2'.1 e1 ei (Hh h2'.2.2)
         cases hr2
       cases hq
     cases hq
   cases hq
 · -- slice
   split at hq
   · rename_i t o N sz cc hx;split at hq
     · rename_i E' sz' hT;rcases tA hq with ⟨h1,hr1⟩ | ⟨_,hr1⟩
       · have:=aJ h1;subst this;split at hr1
         · rename_i l hl;split at hr1
           · rename_i hi hh;obtain ⟨v,e1,k1⟩:=tD hs hx;obtain ⟨h2,h3,c',rfl,h4,k2⟩:=ZU k1 hr1;exact eY k2 fun ty=>Oo (xH hT) e1 (AZ hs hl h2) (BA hs hh sU) sU h4
           cases hr1
         cases hr1
       cases hr1
     cases hq
   · rename_i hx;split at hq
     · rename_i x' hT;obtain ⟨E',sz⟩:=x';split at hq
       · rename_i l hl;split at hq
         · rename_i hi hh;rcases tA hq with ⟨h1,hr1⟩ | ⟨_,hr1⟩
           · cases hr1;simp only [aF,yY,aO] at h1;obtain ⟨rfl,rfl⟩:=h1;obtain ⟨v,e1,k1⟩:=tD hs hx;have e2:=oF.1 k1.2;subst e2;exact eY k1 fun ty=>Oo (xH hT) e1 (AZ hs hl sU) (BA hs hh sU) (aH _) (aH _)
           cases hr1
         cases hq
       cases hq
     cases hq
   cases hq
 · -- slice,its room too
   split at hq
   · rename_i t o N sz cc hx;split at hq
     · rename_i E' sz' hT;rcases tA hq with ⟨h1,hr1⟩ | ⟨_,hr1⟩
       · have:=aJ h1;subst this;split at hr1
         · rename_i l hl;split at hr1
           · rename_i hi hh;split at hr1
             · rename_i kz m hz;rcases tA hr1 with ⟨h2,hr2⟩ | ⟨_,hr2⟩
               · obtain ⟨v,e1,k1⟩:=tD hs hx;obtain ⟨vz,ez,kkz⟩:=tD hs hz;rw [iU.1 kkz.2] at ez;have h2':0≤l∧l≤hi∧hi≤m∧bn m N cc=true:=by
                  simpa only [aF,wF,aO] using h2
                 obtain ⟨q1,q2,q3,q4⟩:=h2';have hC:∃ C,v=.slice (some ⟨(ρ t).1,o,none⟩) N C∧m.toNat≤C∧o+C*sz≤(ρ t).2∧C≤maxLen:=by
                  cases cc with
                  | some c =>
                    obtain ⟨g1,g2,g3,g4⟩:=kS.1 k1.2;have q4':m≤(c:Int):=by
                     have q5:zY m c=true:=q4;simpa only [wF,aO] using q5
                    exact ⟨c,g1,by omega,g2,g4⟩
                  | none =>
                    obtain ⟨c,g1,g2,g3,g4⟩:=nE.1 k1.2;have q4':m≤(N:Int):=by
                     have q5:zY m N=true:=q4;simpa only [wF,aO] using q5
                    exact ⟨c,g1,by omega,by omega,g4⟩
                 obtain ⟨C,rfl,hmC,hsz,hCm⟩:=hC;have hLh:=BA hs hh (show 0≤hi by omega);have hQ:=fun ty=>Xz (P:=P) (H:=[]) (G:=fun _=>none) (ty:=ty) (xH hT) e1 (AZ hs hl q1) (h:=hi.toNat) (m:=m.toNat) (kz:=kz) ⟨_,U,hLh⟩ (by rw [cN sU];exact ez) sU sU hmC;rcases tA hr2 with ⟨h3,hr3⟩ | ⟨h3,hr3⟩
                 · cases hr3;have h3':=aJ h3;refine eY ⟨k1.1,kS.2 ⟨U,by omega,?_,by simp [maxLen]⟩⟩ fun ty=>?_
                   · show hi.toNat - l.toNat≤0;omega
                   have:=hQ ty;rw [aE h3',show m.toNat - l.toNat=0 by omega] at this;exact this
                 cases hr3;have h3':m.toNat≠l.toNat:=fun e=>by rw [e] at h3;simp at h3
                 refine eY ⟨k1.1,kS.2 ⟨U,?_,?_,?_⟩⟩ fun ty=>?_
                 · show o+l.toNat*sz+(m.toNat - l.toNat)*sz≤_;have e1:l.toNat*sz+(m.toNat - l.toNat)*sz=m.toNat*sz:=by rw [←fC];congr 1;omega
                   have e2:m.toNat*sz≤C*sz:=jC _ hmC;omega
                 · show hi.toNat - l.toNat≤m.toNat - l.toNat;omega
                 · show m.toNat - l.toNat≤_;omega
                 have:=hQ ty;rw [aC h3'] at this;show Qy P _ ty _ _ _ (.slice (some ⟨(ρ t).1,o+l.toNat*sz,none⟩) (hi.toNat - l.toNat) (m.toNat - l.toNat));rw [←add_lit];exact this
               cases hr2
             cases hr1
           cases hr1
         cases hr1
       cases hr1
     cases hq
   · rename_i hx;split at hq
     · rename_i x' hT;obtain ⟨E',sz⟩:=x';split at hq
       · rename_i l hl;split at hq
         · rename_i hi hh;split at hq
           · rename_i kz m hz;rcases tA hq with ⟨h1,hr1⟩ | ⟨_,hr1⟩
             · cases hr1;simp only [aF,yY,aO] at h1;obtain ⟨rfl,rfl,rfl⟩:=h1;obtain ⟨v,e1,k1⟩:=tD hs hx;have e2:=oF.1 k1.2;subst e2;obtain ⟨vz,ez,kkz⟩:=tD hs hz;rw [iU.1 kkz.2] at ez;refine eY k1 fun ty=>?_;have:=Xz (P:=P) (H:=[]) (G:=fun _=>none) (ty:=ty) (xH hT) e1 (AZ hs hl sU) (h:=0) (m:=0) (kz:=kz) ⟨_,U,BA hs hh sU⟩ ez (aH _) (aH _) (aH _);exact this
             cases hr1
           cases hq
         cases hq
       cases hq
     cases hq
   cases hq
 · -- build
   rename_i t parts;split at hq
   · rename_i fs hu;split at hq
     · rename_i pl hpl;split at hq
       · rename_i z hz;split at hq
         · rename_i l hf;cases hq;obtain ⟨i,zv,hi,hzv,kz⟩:=Tv hz nx ρ;obtain ⟨vs,e1,o1,k1⟩:=Lk hs kz hf;rw [uU kz] at o1;refine eY (Tx k1) fun ty=>cQ (pl:=pl) (zs:=zv.cells.toList) ⟨zv,fs.toArray,hu,fun w=>?_,by simp,ff hpl⟩ e1 o1 rfl;simp [zeroValue,typeInfo,hi,hzv]
         cases hq
       cases hq
     cases hq
   · rename_i N E' hu;split at hq
     · rename_i sz hsz;split at hq
       · rename_i z hz;split at hq
         · rename_i l hf;cases hq;obtain ⟨i,zv,hi,hzv,kz⟩:=Tv hz nx ρ;obtain ⟨vs,e1,o1,k1⟩:=Lk hs kz hf;rw [uU kz] at o1;refine eY (Tx k1) fun ty=>sL (n:=N) (sz:=sz) (zs:=zv.cells.toList) ⟨zv,E',hu,fun w=>?_,by simp,Nn hsz⟩ e1 o1 rfl;simp [zeroValue,typeInfo,hi,hzv]
         cases hq
       cases hq
     cases hq
   cases hq
 · -- len
   split at hq
   · rename_i t o N sz cc hx;split at hq
     · rename_i x' hT;obtain ⟨E',sz'⟩:=x';cases hq;obtain ⟨v,e1,k1⟩:=tD hs hx;obtain ⟨c',rfl⟩:=Jh k1;exact eY Ah fun ty=>Qy.len (xH hT) e1
     cases hq
   · rename_i hx;split at hq
     · rename_i x' hT;obtain ⟨E',sz'⟩:=x';cases hq;obtain ⟨v,e1,k1⟩:=tD hs hx;have e2:=oF.1 k1.2;subst e2;exact eY Ah fun ty=>Qy.len (xH hT) e1
     cases hq
   · rename_i hx;split at hq
     · rename_i x' hT;obtain ⟨E',sz'⟩:=x';cases hq;obtain ⟨v,e1,k1⟩:=tD hs hx;obtain ⟨a',c',rfl⟩:=k1.2;exact eY Ah fun ty=>Qy.len (xH hT) e1
     cases hq
   · rename_i s hx;split at hq
     · rename_i hT;cases hq;obtain ⟨v,e1,k1⟩:=tD hs hx;obtain ⟨bs,rfl,k2⟩:=BB k1;have e3:=uU k2;rw [aT] at e3;refine eY (v:=.int .i64 ((ByteArray.mk bs.toArray).size:Int)) ?_ fun ty=>ZP hT e1;rw [show (ByteArray.mk bs.toArray).size=bs.length from by show bs.toArray.size=_;simp,←e3];exact Ah
     cases hq
   cases hq
 · -- cap
   split at hq
   · rename_i t o N sz cc hx;split at hq
     · rename_i x' hT;obtain ⟨E',sz'⟩:=x';cases hq;obtain ⟨v,e1,k1⟩:=tD hs hx;have e2:=(kS.1 k1.2).1;subst e2;exact eY Ah fun ty=>Qy.cap (xH hT) e1
     cases hq
   · rename_i hx;split at hq
     · rename_i x' hT;obtain ⟨E',sz'⟩:=x';cases hq;obtain ⟨v,e1,k1⟩:=tD hs hx;have e2:=oF.1 k1.2;subst e2;exact eY Ah fun ty=>Qy.cap (xH hT) e1
     cases hq
   cases hq
 · -- min
   split at hq
   · rename_i k m hx;split at hq
     · rename_i k' m' hy;rcases tA hq with ⟨h1,hr1⟩ | ⟨_,hr1⟩
       · have:=Lz h1;subst this;cases hr1;obtain ⟨v,e1,k1⟩:=tD hs hx;obtain ⟨u,e2,k2⟩:=tD hs hy;rw [iU.1 k1.2] at e1;rw [iU.1 k2.2] at e2;have e3:(bif zY m m' then m else m')=if m'<m then m' else m:=by
          rw [wF];by_cases h2:m≤m'
          · simp [h2,Int.not_lt.2 h2]
          simp [h2,Int.not_le.1 h2]
         rw [e3];exact eY Ah fun ty=>Qy.min e1 e2
       cases hr1
     cases hq
   cases hq
 · -- max
   split at hq
   · rename_i k m hx;split at hq
     · rename_i k' m' hy;rcases tA hq with ⟨h1,hr1⟩ | ⟨_,hr1⟩
       · have:=Lz h1;subst this;cases hr1;obtain ⟨v,e1,k1⟩:=tD hs hx;obtain ⟨u,e2,k2⟩:=tD hs hy;rw [iU.1 k1.2] at e1;rw [iU.1 k2.2] at e2;have e3:(bif zY m' m then m else m')=if m<m' then m' else m:=by
          rw [wF];by_cases h2:m'≤m
          · simp [h2,Int.not_lt.2 h2]
          simp [h2,Int.not_le.1 h2]
         rw [e3];exact eY Ah fun ty=>Qy.max e1 e2
       cases hr1
     cases hq
   cases hq
 · -- lookup
   rename_i T x i cc;unfold qg at hq;split at hq
   · rename_i t hx;obtain ⟨v1,e1,k1⟩:=tD hs hx;have e1':=Tw k1;subst e1';have hrd:WG E (.lookup T x i cc)=some t:=by show (match vO E x with | some (.mp t)=>some t | _=>none)=some t;rw [hx]
     split at hq
     · rename_i k hi;obtain ⟨v2,e2,k2⟩:=tD hs hi;split at hq
       · rename_i l st hb;have hob:ob t=A4 l:=hm t _ hrd hb;split at hq
         · rename_i m hk;rcases tA hq with ⟨h1,hr⟩ | ⟨_,hr⟩
           · cases hr;obtain ⟨kt,hT⟩:=AX h1;have e3:=Qd hk k2;subst e3;rw [Qc yY];refine ⟨_,VN,fun w hw dst ty pos after g=>?_⟩;have hbk:=hw t hrd;rw [hob] at hbk;simp only [execOp,(lookN a w).eval e1,(lookN a w).eval e2,bK,Jf hT hbk cc,aR,bO]
           cases hr
         cases hq
       · rename_i l st hb;have hob:ob t=A4 l:=hm t _ hrd hb;split at hq
         · rename_i m hk;rcases tA hq with ⟨h1,hr⟩ | ⟨_,hr⟩
           · cases hr;obtain ⟨kt,hT⟩:=AY h1;have e3:=Qe hk k2;subst e3;rw [Qc AW];refine ⟨_,VN,fun w hw dst ty pos after g=>?_⟩;have hbk:=hw t hrd;rw [hob] at hbk;simp only [execOp,(lookN a w).eval e1,(lookN a w).eval e2,bK,Jf hT hbk cc,aR,bO]
           cases hr
         cases hq
       cases hq
     cases hq
   cases hq
 cases hq
end
def Fit:Nat:=1000000000
theorem Ty:Fit=1000000000:=rfl
structure H7 (X:Nat→Prop) (ρ:Pl) (h:Tr CB) (nx:Nat) (w:World) (ρ':Pl) (h':Tr CB) (w':World):Prop where
 old:∀ t b,h'.get t=some b→AS b<nx→h.get t=some b∧w'.heap[(ρ t).1]?=w.heap[(ρ t).1]?
 fr:∀ p,p<w.heap.size→(∀ t b,h.get t=some b→(ρ t).1≠p)→¬X p→w'.heap[p]?=w.heap[p]?
 nw:∀ t b,h'.get t=some b→w.heap.size≤(ρ' t).1∨∃ t' b',h.get t'=some b'∧(ρ t').1=(ρ' t).1
 sz:w.heap.size≤w'.heap.size
abbrev Ya:=H7 (fun _=>False)
section
variable {ρ ρ':Pl} {Φ:A2→Prop} {w0:E7 Φ} {w w' w'':I8} {h h' h'':Tr CB} {nx nx':Nat}
theorem H7.refl {X:Nat→Prop}:H7 X ρ h nx w ρ h w:=⟨fun t b hb _=>⟨hb,U⟩,fun _ _ _ _=>rfl,fun t b hb=>.inr ⟨t,b,hb,U⟩,aH _⟩
abbrev mZ:=@H7.refl
theorem Mem.lt (hm:Mem ρ w0 h nx w) {t:Nat} {b:CB} (ht:h.get t=some b):(ρ t).1<w.heap.size:=by
 obtain ⟨_,_,_,o,h1,_⟩:=hm.own t b ht;exact (bX.1 h1).1
theorem Mem.klt (hm:Mem ρ w0 h nx w) {b:Nat} (hb:b∈w0.ks):b<w.heap.size:=(bX.1 (hm.kept b hb).2.1).1
theorem Oq {X:Nat→Prop} {ρ2:Pl} (hm:Mem ρ w0 h nx w) (k1:Ya ρ h nx w ρ' h' w') (k2:H7 X ρ' h' nx' w' ρ2 h'' w'') (hX:∀ p,X p→w.heap.size≤p) (hn:nx≤nx') (he:F8 nx ρ ρ'):Ya ρ h nx w ρ2 h'' w'':=by
 refine ⟨fun t b hb hs=>?_,fun p hp hu _=>?_,fun t b hb=>?_,bP k1.sz k2.sz⟩
 · obtain ⟨a1,a2⟩:=k2.old t b hb (bZ hs hn);obtain ⟨b1,b2⟩:=k1.old t b a1 hs;have e:=he t (hm.own t b b1).1;rw [e] at a2;exact ⟨b1,a2.trans b2⟩
 · refine (k2.fr p (bZ hp k1.sz) (fun t b hb e=>?_) (fun hx=>kQ _ (bZ hp (hX p hx)))).trans (k1.fr p hp hu id);rcases k1.nw t b hb with h1 | ⟨t',b',h1,h2⟩
   · omega
   exact hu t' b' h1 (h2.trans e)
 rcases k2.nw t b hb with h1 | ⟨t',b',h1,h2⟩
 · exact .inl (bP k1.sz h1)
 rw [←h2];exact k1.nw t' b' h1
theorem H7.trans {ρ2:Pl} (hm:Mem ρ w0 h nx w) (k1:Ya ρ h nx w ρ' h' w') (k2:Ya ρ' h' nx' w' ρ2 h'' w'') (hn:nx≤nx') (he:F8 nx ρ ρ'):Ya ρ h nx w ρ2 h'' w'':=Oq hm k1 k2 (fun _ h=>h.elim) hn he
theorem Mem.new (hm:Mem ρ w0 h nx w) (hf:nx<Fit) {b:CB} {o:Obj} {s:Nat} (hst:AS b=nx) (hu:D9 (fun _=>False) w w') (hs:w'.heap.size=w.heap.size+1) (ho:w'.heap[w.heap.size]?=some o) (hb:DB nx ρ s b o) :
 ∃ ρ',F8 nx ρ ρ'∧ρ' nx=(w.heap.size,s)∧Mem ρ' w0 (h.set (some b) Fit nx) (nx+1) w'∧Ya ρ h nx w ρ' (h.set (some b) Fit nx) w':=by
 have hext:F8 nx ρ (fun t=>if t=nx then (w.heap.size,s) else ρ t):=fun t ht=>by simp [rW ht]
 have get:=fun j=>fP (some b) Fit h nx j hf;refine ⟨fun t=>if t=nx then (w.heap.size,s) else ρ t,hext,by simp,⟨hm.upd.trans hu,?_,?_,hm.imm,hm.nod,fun c hc=>?_⟩,?_⟩
 · intro t b' ht;rw [get] at ht;by_cases e:t=nx
   · subst e;rw [aE rfl] at ht;cases ht;simp only [gL];exact ⟨by omega,by omega,hm.upd.size,o,ho,hb.up (dO _) hext⟩
   rw [aC e] at ht;obtain ⟨h1,hs1,h2,o',h3,h4⟩:=hm.own t b' ht;simp only [e,eQ];refine ⟨by omega,by omega,h2,o',?_,h4.up (dO _) hext⟩;rw [hu.same _ (hm.lt ht) id];exact h3
 · intro t t' b1 b2 h1 h2 he;rw [get] at h1 h2;by_cases e:t=nx <;> by_cases e':t'=nx
   · rw [e,e']
   · rw [aC e'] at h2;have:=hm.lt h2;simp only [e,e',gL,eQ] at he;omega
   · rw [aC e] at h1;have:=hm.lt h1;simp only [e,e',gL,eQ] at he;omega
   rw [aC e] at h1;rw [aC e'] at h2;simp only [e,e',eQ] at he;exact hm.one t t' b1 b2 h1 h2 he
 · obtain ⟨k1,k2,k3⟩:=hm.kept c hc;have hl:=hm.klt hc;refine ⟨k1,(hu.same _ hl id).trans k2,fun t b' ht=>?_⟩;rw [get] at ht;by_cases e:t=nx
   · simp only [e,gL];omega
   rw [aC e] at ht;simp only [e,eQ];exact k3 t b' ht
 refine ⟨fun t b' hb' hst'=>?_,fun p hp _ _=>hu.same _ hp id,fun t b' hb'=>?_,hu.size⟩
 · rw [get] at hb';by_cases e:t=nx
   · rw [aE e] at hb';cases hb';omega
   rw [aC e] at hb';exact ⟨hb',hu.same _ (hm.lt hb') id⟩
 rw [get] at hb';by_cases e:t=nx
 · simp only [e,gL];exact .inl (aH _)
 rw [aC e] at hb';simp only [e,eQ];exact .inr ⟨t,b',hb',U⟩
theorem Mem.write (hm:Mem ρ w0 h nx w) (hf:nx≤Fit) {t:Nat} {b b':CB} {o:Obj} (hst:AS b'=nx) (ht:h.get t=some b) (hu:D9 (·=(ρ t).1) w w') (ho:w'.heap[(ρ t).1]?=some o) (hb:DB nx ρ (ρ t).2 b' o) :
 Mem ρ w0 (h.set (some b') Fit t) (nx+1) w'∧Ya ρ h nx w ρ (h.set (some b') Fit t) w':=by
 obtain ⟨h1,hs1,h2,_⟩:=hm.own t b ht;have get:=fun j=>fP (some b') Fit h t j sU;refine ⟨⟨⟨hu.os.trans hm.upd.os,hu.tape.trans hm.upd.tape,hu.output.trans hm.upd.output,bP hm.upd.size hu.size,fun k hk hx=>?_⟩,?_,?_,hm.imm,hm.nod,fun c hc=>?_⟩,?_⟩
 · exact (hu.same k (bZ hk hm.upd.size) sU).trans (hm.upd.same k hk hx)
 · intro t' c hc;rw [get] at hc;by_cases e:t'=t
   · subst e;rw [aE rfl] at hc;cases hc;exact ⟨by omega,by omega,h2,o,ho,hb.up (dO _) (gA _ _)⟩
   rw [aC e] at hc;obtain ⟨g1,gs,g2,o',g3,g4⟩:=hm.own t' c hc;refine ⟨by omega,by omega,g2,o',?_,g4.up (dO _) (gA _ _)⟩;rw [hu.same _ (hm.lt hc) (fun e2=>e (hm.one t' t c b hc ht e2))];exact g3
 · intro t1 t2 b1 b2 e1 e2 he;have f:∀ t' c,(h.set (some b') Fit t).get t'=some c→∃ c',h.get t'=some c':=fun t' c hc=>by
    rw [get] at hc;by_cases e:t'=t
    · subst e;exact ⟨b,ht⟩
    rw [aC e] at hc;exact ⟨c,hc⟩
   obtain ⟨c1,g1⟩:=f t1 b1 e1;obtain ⟨c2,g2⟩:=f t2 b2 e2;exact hm.one t1 t2 c1 c2 g1 g2 he
 · obtain ⟨k1,k2,k3⟩:=hm.kept c hc;refine ⟨k1,(hu.same _ (hm.klt hc) (fun e=>k3 t b ht e.symm)).trans k2,fun t' b' ht'=>?_⟩;rw [get] at ht';by_cases e:t'=t
   · subst e;exact k3 _ _ ht
   rw [aC e] at ht';exact k3 _ _ ht'
 refine ⟨fun t' c hc hs'=>?_,fun p hp hup _=>hu.same _ hp (fun e=>hup t b ht e.symm),fun t' c hc=>?_,hu.size⟩
 · rw [get] at hc;by_cases e:t'=t
   · rw [aE e] at hc;cases hc;omega
   rw [aC e] at hc;exact ⟨hc,hu.same _ (hm.lt hc) (fun e2=>e (hm.one t' t c b hc ht e2))⟩
 rw [get] at hc;by_cases e:t'=t
 · exact .inr ⟨t,b,ht,by rw [e]⟩
 rw [aC e] at hc;exact .inr ⟨t',c,hc,U⟩
theorem Mem.kill (hm:Mem ρ w0 h nx w) (hf:nx≤Fit) {t:Nat} (ht:t<nx):Mem ρ w0 (h.set none Fit t) nx w∧Ya ρ h nx w ρ (h.set none Fit t) w:=by
 have get:=fun j=>fP (none:J0 CB) Fit h t j sU;have f:∀ t' c,(h.set none Fit t).get t'=some c→h.get t'=some c:=fun t' c hc=>by
  rw [get] at hc;by_cases e:t'=t
  · rw [aE e] at hc;cases hc
  rw [aC e] at hc;exact hc
 exact ⟨⟨hm.upd,fun t' c hc=>hm.own t' c (f t' c hc),fun t1 t2 b1 b2 e1 e2 he=>hm.one t1 t2 b1 b2 (f _ _ e1) (f _ _ e2) he,hm.imm,hm.nod,fun c hc=>⟨(hm.kept c hc).1,(hm.kept c hc).2.1,fun t' b' ht'=>(hm.kept c hc).2.2 t' b' (f _ _ ht')⟩⟩,⟨fun t' c hc _=>⟨f _ _ hc,U⟩,fun _ _ _ _=>rfl,fun t' c hc=>.inr ⟨t',c,f _ _ hc,U⟩,aH _⟩⟩
theorem Mem.rename (hm:Mem ρ w0 h nx w) (hf:nx<Fit) {t:Nat} {b b':CB} {o:Obj} (hst:AS b'=nx) (ht:h.get t=some b) (hu:D9 (·=(ρ t).1) w w') (ho:w'.heap[(ρ t).1]?=some o) (hb:DB nx ρ (ρ t).2 b' o) :
 ∃ ρ',F8 nx ρ ρ'∧ρ' nx=ρ t∧Mem ρ' w0 ((h.set none Fit t).set (some b') Fit nx) (nx+1) w'∧Ya ρ h nx w ρ' ((h.set none Fit t).set (some b') Fit nx) w':=by
 have htn:=(hm.own t b ht).1;have h0:=(hm.own t b ht).2.2.1;have hext:F8 nx ρ (fun u=>if u=nx then ρ t else ρ u):=fun u hu=>by simp [rW hu]
 have g1:=fun j=>fP (none:J0 CB) Fit h t j sU;have get:=fun j=>fP (some b') Fit (h.set none Fit t) nx j hf;have f:∀ u c,((h.set none Fit t).set (some b') Fit nx).get u=some c→(u=nx∧c=b')∨(u≠nx∧u≠t∧h.get u=some c):=fun u c hc=>by
  rw [get] at hc;by_cases e:u=nx
  · rw [aE e] at hc;cases hc;exact .inl ⟨e,U⟩
  rw [aC e,g1] at hc;by_cases e2:u=t
  · rw [aE e2] at hc;cases hc
  rw [aC e2] at hc;exact .inr ⟨e,e2,hc⟩
 refine ⟨_,hext,by simp,⟨⟨hu.os.trans hm.upd.os,hu.tape.trans hm.upd.tape,hu.output.trans hm.upd.output,bP hm.upd.size hu.size,fun k hk hx=>?_⟩,?_,?_,hm.imm,hm.nod,fun c hc=>?_⟩,?_⟩
 · exact (hu.same k (bZ hk hm.upd.size) sU).trans (hm.upd.same k hk hx)
 · intro u c hc;rcases f u c hc with ⟨rfl,rfl⟩ | ⟨e1,e2,h1⟩
   · simp only [gL];exact ⟨by omega,by omega,h0,o,ho,hb.up (dO _) hext⟩
   obtain ⟨k1,ks,k2,o',k3,k4⟩:=hm.own u c h1;simp only [e1,eQ];refine ⟨by omega,by omega,k2,o',?_,k4.up (dO _) hext⟩;rw [hu.same _ (hm.lt h1) (fun e3=>e2 (hm.one u t c b h1 ht e3))];exact k3
 · intro u u' c c' hc hc' he;rcases f u c hc with ⟨rfl,rfl⟩ | ⟨e1,e2,h1⟩ <;> rcases f u' c' hc' with ⟨rfl,rfl⟩ | ⟨e1',e2',h1'⟩
   · rfl
   · simp only [gL,e1',eQ] at he;exact absurd (hm.one t u' b c' ht h1' he) (fun e=>e2' e.symm)
   · simp only [gL,e1,eQ] at he;exact absurd (hm.one u t c b h1 ht he) e2
   simp only [e1,e1',eQ] at he;exact hm.one u u' c c' h1 h1' he
 · obtain ⟨k1,k2,k3⟩:=hm.kept c hc;refine ⟨k1,(hu.same _ (hm.klt hc) (fun e=>k3 t b ht e.symm)).trans k2,fun t' c' ht'=>?_⟩;rcases f t' c' ht' with ⟨rfl,rfl⟩ | ⟨e1,e2,h1⟩
   · simp only [gL];exact k3 _ _ ht
   simp only [e1,eQ];exact k3 _ _ h1
 refine ⟨fun u c hc hs=>?_,fun p hp hup _=>hu.same _ hp (fun e=>hup t b ht e.symm),fun u c hc=>?_,hu.size⟩
 · rcases f u c hc with ⟨rfl,rfl⟩ | ⟨e1,e2,h1⟩
   · omega
   exact ⟨h1,hu.same _ (hm.lt h1) (fun e3=>e2 (hm.one u t c b h1 ht e3))⟩
 rcases f u c hc with ⟨rfl,rfl⟩ | ⟨e1,e2,h1⟩
 · simp only [gL];exact .inr ⟨t,b,ht,U⟩
 simp only [e1,eQ];exact .inr ⟨u,c,h1,U⟩
end
section
variable {Φ:A2→Prop} {ρ ρ':Pl} {w0:E7 Φ} {w w':I8} {E E':Tr CV} {h h':Tr CB} {nx nx' n:Nat} {a a':Act}
theorem Mem.base {ks:List Nat} {W:I8} {G:A2} {ok:Φ G} {s s':Nat} (hm:Mem ρ ⟨W,ks,G,ok,s⟩ h nx w):Mem ρ ⟨W,ks,G,ok,s'⟩ h nx w:=⟨hm.upd,hm.own,hm.one,hm.imm,hm.nod,hm.kept⟩
theorem Mem.less {ks os:List Nat} {W:I8} {G:A2} {ok:Φ G} {s:Nat} (hm:Mem ρ ⟨W,os++ks,G,ok,s⟩ h nx w):Mem ρ ⟨W,ks,G,ok,s⟩ h nx w:=
 ⟨hm.upd,hm.own,hm.one,hm.imm,(oW.1 hm.nod).2.1,fun b hb=>hm.kept b (jQ _ hb)⟩
theorem F0.slots (hR:F0 ρ w0 n E h nx a w):B4 ρ E nx n a:=by obtain ⟨os,hR⟩:=hR;exact hR.slots
theorem F0.mem (hR:F0 ρ w0 n E h nx a w):Mem ρ w0 h nx w:=by obtain ⟨os,hR⟩:=hR;exact hR.mem.less
theorem F0.put (hR:F0 ρ w0 n E h nx a w) {d:J0 Nat} {v:Value} (hs:B4 ρ E' nx n (a.put d v)):F0 ρ w0 n E' h nx (a.put d v) w:=by
 obtain ⟨os,hR⟩:=hR;exact ⟨os,hs,(show (a.put d v).defers=a.defers by cases d <;> rfl).trans hR.defers,hR.mem,hR.mks,hR.ss⟩
theorem Mem.grow (hm:Mem ρ w0 h nx w) (hu:D9 (fun _=>False) w w'):Mem ρ w0 h nx w'∧Ya ρ h nx w ρ h w':=by
 refine ⟨⟨hm.upd.trans hu,fun t b ht=>?_,hm.one,hm.imm,hm.nod,fun b hb=>?_⟩,⟨fun t b hb _=>⟨hb,hu.same _ (hm.lt hb) id⟩,fun p hp _ _=>hu.same _ hp id,fun t b hb=>.inr ⟨t,b,hb,U⟩,hu.size⟩⟩
 · obtain ⟨h1,h2,h3,o,h4,h5⟩:=hm.own t b ht;exact ⟨h1,h2,h3,o,(hu.same _ (hm.lt ht) id).trans h4,h5⟩
 obtain ⟨k1,k2,k3⟩:=hm.kept b hb;exact ⟨k1,(hu.same _ (hm.klt hb) id).trans k2,k3⟩
theorem Mem.keep {ks:List Nat} {W:I8} {G:A2} {ok:Φ G} {s:Nat} (hm:Mem ρ ⟨W,ks,G,ok,s⟩ h nx w):Mem ρ ⟨W,w.heap.size :: ks,G,ok,s⟩ h nx (w.alloc (.deferred (some [])))∧Ya ρ h nx w ρ h (w.alloc (.deferred (some []))):=by
 obtain ⟨g1,g2⟩:=hm.grow (w':=w.alloc (.deferred (some []))) ((kZ _ w).alloc _);have hn:w.heap.size ∉ ks:=fun hb=>kQ _ (hm.klt hb);refine ⟨⟨g1.upd,g1.own,g1.one,g1.imm,iC.2 ⟨hn,hm.nod⟩,fun b hb=>?_⟩,g2⟩;rcases dD.1 hb with rfl | hb
 · refine ⟨hm.upd.size,uS w _,fun t c ht=>?_⟩;have:=hm.lt ht;omega
 exact g1.kept b hb
theorem Mem.shut {b:Nat} {ks:List Nat} {W:I8} {G:A2} {ok:Φ G} {s:Nat} (hm:Mem ρ ⟨W,b :: ks,G,ok,s⟩ h nx w):Mem ρ ⟨W,ks,G,ok,s⟩ h nx (w.putObj b (.deferred none))∧H7 (·=b) ρ h nx w ρ h (w.putObj b (.deferred none)):=by
 obtain ⟨k1,k2,k3⟩:=hm.kept b (aQ ..);have hu:=wU w b (.deferred none);have hnd:=iC.1 hm.nod;refine ⟨⟨⟨hu.os.trans hm.upd.os,hu.tape.trans hm.upd.tape,hu.output.trans hm.upd.output,bP hm.upd.size hu.size,fun k hk hx=>?_⟩,fun t c ht=>?_,hm.one,hm.imm,hnd.2,fun c hc=>?_⟩,⟨fun t c hc _=>⟨hc,hu.same _ (hm.lt hc) (k3 t c hc)⟩,fun p hp _ hx=>hu.same _ hp hx,fun t c hc=>.inr ⟨t,c,hc,U⟩,hu.size⟩⟩
 · exact (hu.same k (bZ hk hm.upd.size) (fun e=>by subst e;exact absurd k1 (by show ¬W.heap.size≤k;exact Nat.not_le.2 hk))).trans (hm.upd.same k hk hx)
 · obtain ⟨h1,h2,h3,o,h4,h5⟩:=hm.own t c ht;exact ⟨h1,h2,h3,o,(hu.same _ (hm.lt ht) (k3 t c ht)).trans h4,h5⟩
 obtain ⟨q1,q2,q3⟩:=hm.kept c (aL _ hc);exact ⟨q1,(hu.same _ (hm.klt (aL _ hc)) (fun e=>hnd.1 (by rw [←e];exact hc))).trans q2,q3⟩
end
inductive Ro where
 | bad
 | val (v:CV) (h:Tr CB) (nx:Nat)
 | unit (h:Tr CB) (nx:Nat)
def Wd {Φ:A2→Prop} (P:I6) (op:Op) (ρ:Pl) (w0:E7 Φ) (h:Tr CB) (nx:Nat) (a:Act) (w:I8):Ro→Prop
 | .bad=>True
 | .val c h' nx'=>nx≤nx'∧∃ v w' ρ',F8 nx ρ ρ'∧Kn nx' ρ' c v∧Mem ρ' w0 h' nx' w'∧nx'≤Fit∧Ya ρ h nx w ρ' h' w'∧∀ (d:J0 Tmp) (ty:I9) (pos:String) (after:Array Edge) (g:J0 (Nat×Bool)),(execOp a.eval ⟨d,op,ty,pos,after,g⟩).run P w=.ok (.value v) w'
 | .unit h' nx'=>nx≤nx'∧∃ w' ρ',F8 nx ρ ρ'∧Mem ρ' w0 h' nx' w'∧nx'≤Fit∧Ya ρ h nx w ρ' h' w'∧∀ (ty:I9) (pos:String) (after:Array Edge) (g:J0 (Nat×Bool)),(execOp a.eval ⟨none,op,ty,pos,after,g⟩).run P w=.ok .skip w'
section
variable {P:I6} {w:I8}
theorem Ll {t tx ty e:I9} {i:TypeInfo} (ht:P.underlying t=some (.slice e)) (hi:P.info? e=some i) {b off sLen sCap:Nat} {cur:Array Value} {bt:I9} (hb:w.heap[b]?=some (.cells cur bt (0,0))) {x:Value} {n:Nat} {news:List Value} (hs:Go.Src P i.size tx x n news w)
 (hroom:sLen+n≤sCap) (hfit:off+sLen*i.size+news.length≤cur.size) :
 (Builtin.append_ #[t,tx] ty #[.slice (some ⟨b,off,none⟩) sLen sCap,x]).run P w=.ok (.slice (some ⟨b,off,none⟩) (sLen+n) sCap) (w.setRow b (cur.toList.take (off+sLen*i.size)++news++cur.toList.drop (off+sLen*i.size+news.length)).toArray):=by
 have hst:=oT P b (off+sLen*i.size) bt news 0 cur w hb (by simpa using hfit) hs.one;simp only [iY] at hst;rcases hs.kind with ⟨e',hk⟩ | hk <;> simp [Builtin.append_,bB ht,bB hk,sizeOf,typeInfo,hi,hs.len,hroom,hs.cells,Addr.add_lit,hst]
theorem VO {t tx ty e:I9} {i:TypeInfo} (ht:P.underlying t=some (.slice e)) (hi:P.info? e=some i) {b off dLen dCap:Nat} {cur:Array Value} {bt:I9} (hb:w.heap[b]?=some (.cells cur bt (0,0))) {src:Addr} {sLen sCap k:Nat} {news:List Value}
 (hk:Nat.min sLen dLen=k) (hl:news.length=k*i.size) (hn:∀ j v,news[j]?=some v→w.cell? (src.add j)=some v) (h1:∀ v∈news,v.oneCell'=true) (hfit:off+news.length≤cur.size) :
 (Builtin.copy_ #[t,tx] ty #[.slice (some ⟨b,off,none⟩) dLen dCap,.slice (some src) sLen sCap]).run P w=.ok (.int .i64 (k:Int)) (w.setRow b (cur.toList.take off++news++cur.toList.drop (off+news.length)).toArray):=by
 have hst:=oT P b off bt news 0 cur w hb (by simpa using hfit) h1;simp only [iY] at hst;have hld:=rI (P:=P) w src news hn;rw [hl] at hld;simp [Builtin.copy_,bB ht,Builtin.lenOf,Builtin.firstCells,sizeOf,typeInfo,hi,hk,hld,hst,goInt]
theorem OY {t tx ty e:I9} {i:TypeInfo} (ht:P.underlying t=some (.slice e)) (hi:P.info? e=some i) {d a:J0 Addr} {dLen dCap sLen sCap:Nat} (hk:Nat.min sLen dLen=0) :
 (Builtin.copy_ #[t,tx] ty #[.slice d dLen dCap,.slice a sLen sCap]).run P w=.ok (.int .i64 0) w:=by
 have hl:∀ (x:Addr),(loadCells x 0).run P w=.ok #[] w:=fun x=>by simpa using rI (P:=P) w x [] tW
 cases d <;> cases a <;> simp [Builtin.copy_,bB ht,Builtin.lenOf,Builtin.firstCells,sizeOf,typeInfo,hi,hk,storeCells,hl,goInt]
theorem Qg {zs:List Value} (h0:0<zs.length) (n:Nat):madeCells zs.toArray (n*zs.length)=(List.replicate n zs).flatten.toArray:=by
 apply qC;apply fL;intro q;have hlen:(List.replicate n zs).flatten.length=n*zs.length:=tW;by_cases hq:q<n*zs.length
 · have h6:q % zs.length<zs.length:=pT _ h0;have h7:zs.toArray[q % zs.toArray.size]! = zs[q % zs.length]'h6:=by
    rw [getElem!_pos zs.toArray _ (by simpa using h6)];simp
   simp only [madeCells,pN,Array.toList_range,bQ,eF hq,fV,h7];symm;have key:∀ (n q:Nat),q<n*zs.length→(List.replicate n zs).flatten[q]?=some (zs[q % zs.length]'(pT _ h0)):=by
    intro n;induction n with
    | zero=>intro q h;simp at h
    | succ n ih =>
      intro q h;rw [kB,mU];by_cases hz:q<zs.length
      · rw [bC hz,aA hz];congr 1;simp only [nA hz]
      have h2:zs.length≤q:=sU;rw [cS h2,ih (q - zs.length) (by rw [pS] at h;omega)];congr 1;have h3:(q - zs.length) % zs.length=q % zs.length:=by rw [←Nat.mod_eq_sub_mod h2]
      simp only [h3]
   exact key n q hq
 rw [bV (by simp [madeCells];omega),bV (by show (List.replicate n zs).flatten.length≤q;omega)]
end
def VP (P:I6) (T:Nat):J0 (Nat×Nat×Nat×CV):=match P.underlying T with
 | some (.slice E)=>match P.info? E with
   | some i=>match bh P E with
     | some z=>bif Nat.beq (uK z) i.size && Nat.ble 1 i.size then some (E,i.size,i.bytes,z) else none
     | none=>none
   | none=>none
 | _=>none
theorem Np {P:I6} {T E sz by':Nat} {z:CV} (h:VP P T=some (E,sz,by',z)) (nx:Nat) (ρ:Pl) :
 P.underlying T=some (.slice E)∧∃ i v,P.info? E=some i∧i.zero=some v∧i.size=sz∧i.bytes=by'∧KL nx ρ z v.cells.toList∧v.cells.toList.length=sz∧0<sz:=by
 unfold VP at h;split at h
 · rename_i E' hu;split at h
   · rename_i i hi;split at h
     · rename_i z' hz;rcases tA h with ⟨h1,h⟩ | ⟨_,h⟩
       · cases h;simp only [aF] at h1;obtain ⟨i',v,hi',hv,kz⟩:=Tv hz nx ρ;rw [hi] at hi';cases hi';have:=aJ h1.1;rw [uU kz] at this;exact ⟨hu,i,v,hi,hv,U,U,kz,this,bD h1.2⟩
       cases h
     cases h
   cases h
 cases h
def fo (P:I6) (E:Tr CV) (h:Tr CB) (sz:Nat) (tx:Nat) (x:I7):J0 (Nat×CV):=match vO E x with
 | some .nils=>match BK P tx with | some _=>some (0,.nil) | none=>none
 | some (.sl t o n sz' _)=>bif Nat.beq sz sz' then (match BK P tx with
   | some _=>(match h.get t with
     | some (.cells l _ _ _)=>bif Nat.beq (uK (vC l o (Nat.mul n sz))) (Nat.mul n sz) && Le (vC l o (Nat.mul n sz)) then some (n,vC l o (Nat.mul n sz)) else none
     | _=>none)
   | none=>none) else none
 | some (.str s)=>bif Nat.beq sz 1 then (match P.underlying tx with | some .string=>some (uK s,s) | _=>none) else none
 | _=>none
def wl (P:I6) (E:Tr CV) (h:Tr CB) (nx:Nat) (T tx:Nat) (s x:I7):Ro:=match VP P T with
 | some (e,sz,by',_)=>match fo P E h sz tx x with
   | some (m,news)=>match vO E s with
     | some .nils=>bif Nat.beq m 0 then .bad else
      bif Nat.ble (Nat.mul m by') 140737488355328 && (Nat.ble m 4611686018427387904 && Nat.ble (Nat.succ nx) Fit) then .val (.sl nx 0 m sz none) (h.set (some (.cells (Vk news) e true nx)) Fit nx) (Nat.succ nx) else .bad
     | some (.sl t o n sz' c)=>bif not (Nat.beq sz sz') then .bad else bif Nat.beq m 0 then .val (.sl t o n sz c) h nx else
       (match h.get t with
       | some (.cells l bt op _)=>bif not (Nat.beq bt e) then .bad else
         (match c with
         | some c=>bif Nat.ble (Nat.add n m) c then
          (bif Nat.ble (Nat.add o (Nat.mul (Nat.add n m) sz)) l.n && Nat.ble (Nat.succ nx) Fit then .val (.sl t o (Nat.add n m) sz (some c)) (h.set (some (.cells (Vj (Nat.add o (Nat.mul n sz)) news l) bt op nx)) Fit t) (Nat.succ nx) else .bad)
           else
            (bif Nat.ble (Nat.mul (Nat.add n m) by') 140737488355328 && (Nat.ble (Nat.add n m) 4611686018427387904 && (Nat.ble (Nat.succ nx) Fit && Nat.beq (uK (vC l o (Nat.mul n sz))) (Nat.mul n sz))) then
             .val (.sl nx 0 (Nat.add n m) sz none) (h.set (some (.cells (Vk (Eg (vC l o (Nat.mul n sz)) news)) e true nx)) Fit nx) (Nat.succ nx) else .bad)
         | none=>bif Nat.ble (Nat.add o (Nat.mul (Nat.add n m) sz)) l.n && Nat.ble (Nat.succ nx) Fit then .val (.sl t o (Nat.add n m) sz none) (h.set (some (.cells (Vj (Nat.add o (Nat.mul n sz)) news l) bt op nx)) Fit t) (Nat.succ nx)
           else
            bif (Nat.beq o 0 && Nat.beq (Nat.mul n sz) l.n) && (Nat.ble (Nat.mul (Nat.add n m) by') 140737488355328 && (Nat.ble (Nat.add n m) 4611686018427387904 && Nat.ble (Nat.succ nx) Fit)) then
             .val (.sl nx 0 (Nat.add n m) sz none) ((h.set none Fit t).set (some (.cells (fb l news) e true nx)) Fit nx) (Nat.succ nx) else .bad)
       | _=>.bad)
     | _=>.bad
   | none=>.bad
 | none=>.bad
def wv0 (P:I6) (E:Tr CV) (h:Tr CB) (nx:Nat) (T:I9):Ro:=match bh P T with
 | some z=>bif Nat.ble (Nat.succ nx) Fit then .val (.ptr nx 0) (h.set (some (.cells (Vk z) T false nx)) Fit nx) (Nat.succ nx) else .bad
 | none=>.bad
def wv1 (P:I6) (E:Tr CV) (h:Tr CB) (nx:Nat) (T:I9) (x:I7):Ro:=match vO E x with
 | some c=>match Do c with
   | some l=>bif Nat.ble (Nat.succ nx) Fit then .val (.ptr nx 0) (h.set (some (.cells (Vk l) T false nx)) Fit nx) (Nat.succ nx) else .bad
   | none=>.bad
 | none=>.bad
def wv2 (P:I6) (E:Tr CV) (h:Tr CB) (nx:Nat) (T:I9) (x:I7) (y:I7):Ro:=match vO E x with
 | some (.ptr t o)=>match vO E y with
   | some c=>match Do c with
     | some m=>match h.get t with
       | some (.cells l bt op _)=>match VJ P T with
         | some k=>bif Nat.beq (uK m) k && (Le m && (Nat.ble (Nat.add o k) l.n && Nat.ble (Nat.succ nx) Fit)) then .unit (h.set (some (.cells (Vj o m l) bt op nx)) Fit t) (Nat.succ nx) else .bad
         | none=>.bad
       | _=>.bad
     | none=>.bad
   | none=>.bad
 | _=>.bad
def wv3 (P:I6) (E:Tr CV) (h:Tr CB) (nx:Nat) (T:I9) (n:Nat) (parts:List (Nat×I7)):Ro:=match VP P T with
 | some (e,sz,_,z)=>bif Nat.ble 1 n && (Nat.ble (Nat.mul n sz) 16777216 && Nat.ble (Nat.succ nx) Fit) then
  (match Lj E (wJ n sz) (Nat.mul n sz) parts (IG z n) with
  | some l=>.val (.sl nx 0 n sz (some n)) (h.set (some (.cells (Vk l) e false nx)) Fit nx) (Nat.succ nx)
  | none=>.bad) else .bad
 | none=>.bad
def wv4 (P:I6) (E:Tr CV) (h:Tr CB) (nx:Nat) (T:I9) (x:I7) (y:I7):Ro:=match VP P T with
 | some (e,sz,by',z)=>match vO E x with
   | some (.int _ n)=>match vO E y with
     | some (.int _ c)=>bif zY 0 n && (zY n c && (Nat.ble (Nat.mul by' c.toNat) 281474976710656 && (Nat.ble c.toNat 4611686018427387904 && Nat.ble (Nat.succ nx) Fit))) then
      .val (.sl nx 0 n.toNat sz (some c.toNat)) (h.set (some (.cells (Vk (IG z c.toNat)) e false nx)) Fit nx) (Nat.succ nx) else .bad
     | _=>.bad
   | _=>.bad
 | none=>.bad
def wv6 (P:I6) (E:Tr CV) (h:Tr CB) (nx:Nat) (d:I7) (x:I7) (T:I9):Ro:=match VP P T with
 | some (_,sz,_,_)=>match vO E d with
   | some (.sl t o n sz' _)=>match vO E x with
     | some (.sl t2 o2 n2 sz2 _)=>bif Nat.beq sz sz' && Nat.beq sz sz2 then
      (match h.get t with
      | some (.cells l bt op _)=>(match h.get t2 with
        | some (.cells l2 _ _ _) =>
          bif Nat.beq (uK (vC l2 o2 (Nat.mul (Nat.min n2 n) sz))) (Nat.mul (Nat.min n2 n) sz) && (Le (vC l2 o2 (Nat.mul (Nat.min n2 n) sz)) && (Nat.ble (Nat.add o (Nat.mul (Nat.min n2 n) sz)) l.n && Nat.ble (Nat.succ nx) Fit)) then
           .val (.int .i64 (Nat.min n2 n)) (h.set (some (.cells (Vj o (vC l2 o2 (Nat.mul (Nat.min n2 n) sz)) l) bt op nx)) Fit t) (Nat.succ nx) else .bad
        | _=>.bad)
      | _=>.bad) else .bad
     | some .nils=>.val (.int .i64 0) h nx
     | _=>.bad
   | _=>.bad
 | none=>.bad
def wv (P:I6) (E:Tr CV) (h:Tr CB) (nx:Nat):Op→Ro
 | .alloc T=>wv0 P E h nx T
 | .box T x=>wv1 P E h nx T x
 | .store T x y=>wv2 P E h nx T x y
 | .buildSlice T n ⟨parts⟩=>wv3 P E h nx T n parts
 | .makeSlice T x y=>wv4 P E h nx T x y
 | .call ⟨.builtin .append,⟨[s,x]⟩,⟨[T,tx]⟩⟩=>wl P E h nx T tx s x
 | .call ⟨.builtin .copy,⟨[d,x]⟩,⟨[T,_]⟩⟩=>wv6 P E h nx d x T
 | _=>.bad
section
variable {P:I6} {nx n:Nat} {ρ:Pl} {Φ:A2→Prop} {w0:E7 Φ} {w:I8} {E:Tr CV} {h:Tr CB} {a:Act}
theorem yZ {x:I7} {v:Value} (hx:(eA a).ev x=some v):a.eval x=v:=(lookN a default).eval hx
theorem Wd.new {op:Op} {c:CV} {b:CB} {o:Obj} {s:Nat} (hm:Mem ρ w0 h nx w) (hf:Nat.ble (Nat.succ nx) Fit=true) (hst:AS b=nx) {w':I8} {v:Value} (hu:D9 (fun _=>False) w w') (hsz:w'.heap.size=w.heap.size+1) (ho:w'.heap[w.heap.size]?=some o) (hb:DB nx ρ s b o)
 (hk:∀ ρ',ρ' nx=(w.heap.size,s)→DV ρ' c v) (hbd:Bd (nx+1) c) (hr:∀ (d:J0 Tmp) (ty:I9) (pos:String) (after:Array Edge) (g:J0 (Nat×Bool)),(execOp a.eval ⟨d,op,ty,pos,after,g⟩).run P w=.ok (.value v) w') :
 Wd P op ρ w0 h nx a w (.val c (h.set (some b) Fit nx) (Nat.succ nx)):=by
 have hf':=bD hf;obtain ⟨ρ',h1,h2,h3,h4⟩:=hm.new (w':=w') hf' hst hu hsz ho hb;exact ⟨dO _,v,w',ρ',h1,⟨hbd,hk ρ' h2⟩,h3,hf',h4,hr⟩
abbrev pQ:=@Wd.new
theorem vX (w:I8) (o:Obj):D9 (fun _=>False) w (w.alloc o):=(kZ _ w).alloc o
theorem wG (w:I8) (o:Obj):(w.alloc o).heap.size=w.heap.size+1:=by show (w.heap.push o).size=_;simp
theorem yO {l:CV} {vs:List Value} (hk:KL nx ρ l vs) (ty:Nat) {st:Nat}:DB nx ρ vs.length (.cells (Vk l) ty false st) (.cells vs.toArray ty (0,0)):=⟨vs,[],AV hk,by simp,by simp,fun _=>rfl⟩
theorem IM {t p:Nat} {l:Rw} {m:CV} {bt:Nat} {op:Bool} {st:Nat} {news:List Value} (hm:Mem ρ w0 h nx w) (hfit:nx≤Fit) (ht:h.get t=some (.cells l bt op st)) (hn:KL nx ρ m news) (hp:p+news.length≤l.n) :
 ∃ cur:Array Value,w.heap[(ρ t).1]?=some (.cells cur bt (0,0))∧p+news.length≤cur.size∧cur.size=(ρ t).2∧∀ w',D9 (·=(ρ t).1) w w'→w'.heap[(ρ t).1]?=some (.cells (cur.toList.take p++news++cur.toList.drop (p+news.length)).toArray bt (0,0))→
  Mem ρ w0 (h.set (some (.cells (Vj p m l) bt op nx)) Fit t) (nx+1) w'∧Ya ρ h nx w ρ (h.set (some (.cells (Vj p m l) bt op nx)) Fit t) w':=by
 obtain ⟨h1,hs1,h2,o,h3,vs,junk,k1,rfl,k3,k4⟩:=hm.own t _ ht;rw [LG k1] at hp;refine ⟨_,h3,by simp;omega,by simpa using k3,fun w' hu ho=>hm.write hfit rfl ht hu ho ?_⟩;refine ⟨vs.take p++news++vs.drop (p+news.length),junk,?_,?_,?_,k4⟩
 · exact ZN k1 hn hp
 · simp only [fZ (show p≤vs.length by omega),hJ hp,bA]
 simp only [aD,bM,eK];omega
theorem fp {m l:CV} {p k:Nat} (h:p+uK m≤uK l):uK (Eg (Ii p l) (Eg m (Ih (p+uK m) l)))=uK l:=by
 have t:∀ (k:Nat) (x:CV),uK (Ii k x)=min k (uK x):=by
  intro k;induction k with
  | zero=>intro x;show 0=_;omega
  | succ k ih=>intro x;cases x with
    | cons a b=>show Nat.succ (uK (Ii k b))=min (k+1) (Nat.succ (uK b));rw [ih];omega
    | _=>show 0=min (k+1) 0;omega
 have d:∀ (k:Nat) (x:CV),uK (Ih k x)=uK x - k:=by
  intro k;induction k with
  | zero=>intro x;rfl
  | succ k ih=>intro x;cases x with
    | cons a b=>show uK (Ih k b)=Nat.succ (uK b) - (k+1);rw [ih];omega
    | _=>show 0=0 - (k+1);omega
 have ap:∀ x y:CV,uK (Eg x y)=uK x+uK y:=by
  intro x y;induction x with
  | cons a b _ ih=>show Nat.succ (uK (Eg b y))=Nat.succ (uK b)+uK y;rw [ih];omega
  | _=>show uK y=0+uK y;omega
 rw [ap,ap,t,d];omega
theorem Yb {pl:List (Nat×Nat)} {N:Nat}:∀ {parts:List (Nat×I7)} {l r:CV},Lj E pl N parts l=some r→N≤uK l→uK r=uK l:=by
 intro parts;induction parts with
 | nil=>intro l r h _;cases h;rfl
 | cons p parts ih =>
   intro l r h hN;have h':(match Ur pl p.1 with
    | some (off,size)=>(match vO E p.2 with
      | some c=>(match Do c with
        | some m=>bif Nat.beq (uK m) size && Nat.ble (off+size) N then Lj E pl N parts (Eg (Ii off l) (Eg m (Ih (off+size) l))) else none
        | none=>none)
      | none=>none)
    | none=>none)=some r:=h
   split at h'
   · rename_i off size hp0;split at h'
     · split at h'
       · rename_i m hm0;rcases tA h' with ⟨h1,h2⟩ | ⟨_,h2⟩
         · simp only [aF] at h1;have e1:=aJ h1.1;have e2:=bD h1.2;subst e1;have hp:=fp (k:=0) (m:=m) (l:=l) (p:=off) sU;rw [ih h2 (by rw [hp];exact hN),hp]
         cases h2
       cases h'
     cases h'
   cases h'
theorem VQ {T:I9} {r:Ro} (hs:B4 ρ E nx n a) (hm:Mem ρ w0 h nx w) (hr:wv P E h nx (.alloc T)=r):Wd P (.alloc T) ρ w0 h nx a w r:=by
 subst hr;show Wd _ _ _ _ _ _ _ _ (match bh P T with | some z=>bif Nat.ble (Nat.succ nx) Fit then .val (.ptr nx 0) (h.set (some (.cells (Vk z) T false nx)) Fit nx) (Nat.succ nx) else .bad | none=>.bad);split
 · rename_i z hz;cases hf:Nat.ble (Nat.succ nx) Fit with
   | false=>trivial
   | true =>
     obtain ⟨i,v,hi,hv,kz⟩:=Tv hz nx ρ;refine pQ (s:=v.cells.toList.length) (o:=.cells v.cells.toList.toArray T (0,0)) (w':=w.alloc (.cells v.cells.toList.toArray T (0,0))) (v:=.pointer (some ⟨w.heap.size,0,none⟩)) hm hf U (vX _ _) (wG _ _) (uS _ _) (yO kz T) (fun ρ' hρ=>?_) (cR nx) fun d ty pos after g=>?_
     · show _=Value.pointer (some ⟨(ρ' nx).1,0,none⟩);rw [hρ]
     simp [execOp,Instr.alloc,newVar,newRow,zeroValue,typeInfo,hi,hv]
 trivial
theorem fq {T:I9} {x:I7} {r:Ro} (hs:B4 ρ E nx n a) (hm:Mem ρ w0 h nx w) (hr:wv P E h nx (.box T x)=r):Wd P (.box T x) ρ w0 h nx a w r:=by
 subst hr;show Wd _ _ _ _ _ _ _ _ (match vO E x with
  | some c=>match Do c with
    | some l=>bif Nat.ble (Nat.succ nx) Fit then .val (.ptr nx 0) (h.set (some (.cells (Vk l) T false nx)) Fit nx) (Nat.succ nx) else .bad
    | none=>.bad
  | none=>.bad)
 split
 · rename_i c hc;split
   · rename_i l hl;cases hf:Nat.ble (Nat.succ nx) Fit with
     | false=>trivial
     | true =>
       obtain ⟨v,e1,k1⟩:=tD hs hc;have kz:=Ei k1 hl;refine pQ (s:=v.cells.toList.length) (o:=.cells v.cells.toList.toArray T (0,0)) (w':=w.alloc (.cells v.cells.toList.toArray T (0,0))) (v:=.pointer (some ⟨w.heap.size,0,none⟩)) hm hf U (vX _ _) (wG _ _) (uS _ _) (yO kz T) (fun ρ' hρ=>?_) (cR nx) fun d ty pos after g=>?_
       · show _=Value.pointer (some ⟨(ρ' nx).1,0,none⟩);rw [hρ]
       simp [execOp,Instr.box,newVar,newRow,yZ e1]
   trivial
 trivial
theorem VR {T:I9} {x y:I7} {r:Ro} (hs:B4 ρ E nx n a) (hm:Mem ρ w0 h nx w) (hfit:nx≤Fit) (hr:wv P E h nx (.store T x y)=r):Wd P (.store T x y) ρ w0 h nx a w r:=by
 subst hr;show Wd _ _ _ _ _ _ _ _ (match vO E x with
  | some (.ptr t o)=>match vO E y with
    | some c=>match Do c with
      | some m=>match h.get t with
        | some (.cells l bt op _)=>match VJ P T with
          | some k=>bif Nat.beq (uK m) k && (Le m && (Nat.ble (Nat.add o k) l.n && Nat.ble (Nat.succ nx) Fit)) then .unit (h.set (some (.cells (Vj o m l) bt op nx)) Fit t) (Nat.succ nx) else .bad
          | none=>.bad
        | _=>.bad
      | none=>.bad
    | none=>.bad
  | _=>.bad)
 split
 · rename_i t o hx;split
   · rename_i c hc;split
     · rename_i m hmc;split
       · rename_i l bt op st ht;split
         · rename_i k hk;cases hb:Nat.beq (uK m) k && (Le m && (Nat.ble (Nat.add o k) l.n && Nat.ble (Nat.succ nx) Fit)) with
           | false=>trivial
           | true =>
             simp only [aF] at hb;obtain ⟨v,e1,k1⟩:=tD hs hx;have e2:=rO.1 k1.2;subst e2;obtain ⟨u,e3,k3⟩:=tD hs hc;have km:=Ei k3 hmc;have hlen:u.cells.toList.length=k:=by rw [←uU km];exact aJ hb.1
             have hle:o+u.cells.toList.length≤l.n:=by rw [hlen];exact bD hb.2.2.1
             obtain ⟨cur,g1,g2,g3,g4⟩:=IM hm hfit ht km hle;have g1':w.heap[(ρ t).1]?=some (.cells cur.toList.toArray bt (0,0)):=by rw [g1]
             have hrun:=Cy (P:=P) (T:=T) (off:=o) (cs:=cur.toList) (vs:=u.cells.toList) (v:=u) (by rw [hlen];exact Nn hk) tW (Tp km hb.2.1) g1' (by simpa using g2);have g5:=g4 (w.setRow (ρ t).1 (cur.toList.take o++u.cells.toList++cur.toList.drop (o+u.cells.toList.length)).toArray) (wT w (ρ t).1 _) PT;refine ⟨dO _,w.setRow (ρ t).1 (cur.toList.take o++u.cells.toList++cur.toList.drop (o+u.cells.toList.length)).toArray,ρ,gA _ _,g5.1,bD hb.2.2.2,g5.2,fun ty pos after g=>?_⟩;simp [execOp,yZ e1,yZ e3,hrun]
         trivial
       trivial
     trivial
   trivial
 trivial
theorem Vn {T N:Nat} {parts:List (Nat×I7)} {r:Ro} (hs:B4 ρ E nx n a) (hm:Mem ρ w0 h nx w) (hr:wv P E h nx (.buildSlice T N ⟨parts⟩)=r):Wd P (.buildSlice T N ⟨parts⟩) ρ w0 h nx a w r:=by
 subst hr;show Wd _ _ _ _ _ _ _ _ (match VP P T with
  | some (e,sz,_,z)=>bif Nat.ble 1 N && (Nat.ble (Nat.mul N sz) 16777216 && Nat.ble (Nat.succ nx) Fit) then
   (match Lj E (wJ N sz) (Nat.mul N sz) parts (IG z N) with
   | some l=>.val (.sl nx 0 N sz (some N)) (h.set (some (.cells (Vk l) e false nx)) Fit nx) (Nat.succ nx)
   | none=>.bad) else .bad
  | none=>.bad)
 split
 · rename_i e sz by' z hz;cases hb:Nat.ble 1 N && (Nat.ble (Nat.mul N sz) 16777216 && Nat.ble (Nat.succ nx) Fit) with
   | false=>trivial
   | true =>
     simp only [mK];split
     · rename_i l hl;simp only [aF] at hb;obtain ⟨hu,i,zv,hi,hzv,hsz,hby,kz,hzl,h0⟩:=Np hz nx ρ;have kr:=Pz kz N;obtain ⟨vs,e1,o1,k1⟩:=Lk hs kr hl;have hN:=bD hb.1;have hNs:N*sz≤16777216:=bD hb.2.1;have hpos:0<N*sz:=Nat.mul_pos hN h0;have hlen:(List.replicate N zv.cells.toList).flatten.length=N*sz:=by simp [←hzl]
       have hf:=Jp (fun i=>some (i*sz,sz)) (wJ N sz) (fun i x h=>by
        simp only [wJ,bQ,fK] at h;obtain ⟨j,hj,rfl⟩:=h;obtain ⟨hlt,hj⟩:=aW.1 hj;simp at hj;subst hj;rfl) vs (List.replicate N zv.cells.toList).flatten (N*sz) hlen o1
       have hmade:((Array.range (N*i.size)).map (zv.cells[· % zv.cells.size]!))=(List.replicate N zv.cells.toList).flatten.toArray:=by
        have:=Qg (zs:=zv.cells.toList) sU N;rw [hzl] at this;simpa [madeCells,hsz] using this
       have hrun:=run_buildSlice (P:=P) w T e N vs.toArray (Bg (wJ N sz) (List.replicate N zv.cells.toList).flatten vs).toArray i zv hu hi hzv BN BN (by rw [hmade,hsz];exact hf);have hmm:(parts.toArray.map fun (i,x)=>(i,a.eval x))=vs.toArray:=by rw [←(lookN a w).parts e1];simp
       have hlenF:(Bg (wJ N sz) (List.replicate N zv.cells.toList).flatten vs).length=N*sz:=by
        rw [←uU k1,Yb hl (by rw [uU kr,hlen];exact aH _),uU kr,hlen]
       refine pQ (s:=(Bg (wJ N sz) (List.replicate N zv.cells.toList).flatten vs).length) (o:=.cells (Bg (wJ N sz) (List.replicate N zv.cells.toList).flatten vs).toArray e (0,0)) (v:=.slice (some ⟨w.heap.size,0,none⟩) N N) hm hb.2.2 U (vX _ _) (wG _ _) (uS _ _) (yO k1 e) (fun ρ' hρ=>?_) (cR nx) fun d ty pos after g=>?_
       · refine kS.2 ⟨by rw [hρ],by rw [hρ,hlenF];omega,aH _,?_⟩;have:=Nat.le_mul_of_pos_right N h0;simp only [maxLen];omega
       simp only [execOp,hmm,bK,hrun,aR,bO]
     trivial
 trivial
end
section
variable {P:I6} {nx n:Nat} {ρ:Pl} {Φ:A2→Prop} {w0:E7 Φ} {w:I8} {E:Tr CV} {h:Tr CB} {a:Act}
theorem BC {T:I9} {x y:I7} {r:Ro} (hs:B4 ρ E nx n a) (hm:Mem ρ w0 h nx w) (hr:wv P E h nx (.makeSlice T x y)=r):Wd P (.makeSlice T x y) ρ w0 h nx a w r:=by
 subst hr;show Wd _ _ _ _ _ _ _ _ (match VP P T with
  | some (e,sz,by',z)=>match vO E x with
    | some (.int _ n)=>match vO E y with
      | some (.int _ c)=>bif zY 0 n && (zY n c && (Nat.ble (Nat.mul by' c.toNat) 281474976710656 && (Nat.ble c.toNat 4611686018427387904 && Nat.ble (Nat.succ nx) Fit))) then
       .val (.sl nx 0 n.toNat sz (some c.toNat)) (h.set (some (.cells (Vk (IG z c.toNat)) e false nx)) Fit nx) (Nat.succ nx) else .bad
      | _=>.bad
    | _=>.bad
  | none=>.bad)
 split
 · rename_i e sz by' z hz;split
   · rename_i k N hx;split
     · rename_i k' C hy;cases hb:zY 0 N && (zY N C && (Nat.ble (Nat.mul by' C.toNat) 281474976710656 && (Nat.ble C.toNat 4611686018427387904 && Nat.ble (Nat.succ nx) Fit))) with
       | false=>trivial
       | true =>
         simp only [aF,wF,aO] at hb;obtain ⟨hb1,hb2,hb3,hb4,hb5⟩:=hb;have hb3:by'*C.toNat≤281474976710656:=bD hb3;have hb4:=bD hb4;obtain ⟨hu,i,zv,hi,hzv,hsz,hby,kz,hzl,h0⟩:=Np hz nx ρ;obtain ⟨v1,e1,k1⟩:=tD hs hx;obtain ⟨v2,e2,k2⟩:=tD hs hy;rw [iU.1 k1.2] at e1;rw [iU.1 k2.2] at e2;have hbc:(i.bytes:Int)*C≤281474976710656:=by
          have:((by'*C.toNat:Nat):Int)=(i.bytes:Int)*C:=by rw [kN,cN sU,hby]
          omega
         have hrun:=run_make (P:=P) w T e i zv hu hi hzv k k' N C hb1 hb2 hbc sU;have hmade:madeCells zv.cells (C.toNat*i.size)=(List.replicate C.toNat zv.cells.toList).flatten.toArray:=by
          have:=Qg (zs:=zv.cells.toList) sU C.toNat;rw [hzl] at this;rw [hsz,←this]
         rw [hmade] at hrun;have hlen:(List.replicate C.toNat zv.cells.toList).flatten.length=C.toNat*sz:=by simp [←hzl]
         refine pQ (s:=C.toNat*sz) (o:=.cells (List.replicate C.toNat zv.cells.toList).flatten.toArray e (0,0)) (v:=.slice (some ⟨w.heap.size,0,none⟩) N.toNat C.toNat) hm hb5 U (vX _ _) (wG _ _) (uS _ _) (by rw [←hlen];exact yO (Pz kz C.toNat) e) (fun ρ' hρ=>?_) (cR nx) fun d ty pos after g=>?_
         · refine kS.2 ⟨by rw [hρ],by rw [hρ];show 0+C.toNat*sz≤C.toNat*sz;omega,by omega,?_⟩;simp only [maxLen];omega
         simp only [execOp,yZ e1,yZ e2,bK,hrun,aR,bO]
     trivial
   trivial
 trivial
theorem Qh {t:Nat} {vs:List Value} {ty:I9} (hb:w.heap[t]?=some (.cells vs.toArray ty (0,0))) {o:Nat} {m:Nat} {news:List Value} (hn:news=(vs.drop o).take m):∀ j v,news[j]?=some v→w.cell? ((⟨t,o,none⟩:Addr).add j)=some v:=fun j v hj=>by
 rw [add_lit,cell_of_block hb];subst hn;rw [mG] at hj;split at hj
 · rw [iR] at hj;exact hj
 cases hj
theorem ZV {sz tx:Nat} {x:I7} {m:Nat} {l:CV} (hs:B4 ρ E nx n a) (hm:Mem ρ w0 h nx w) (hq:fo P E h sz tx x=some (m,l)):∃ xv news,(eA a).ev x=some xv∧KL nx ρ l news∧news.length=m*sz∧Go.Src P sz tx xv m news w:=by
 unfold fo at hq;split at hq
 · rename_i hx;split at hq
   · rename_i q hT;obtain ⟨e',sz'⟩:=q;cases hq;obtain ⟨v,e1,k1⟩:=tD hs hx;have e2:=oF.1 k1.2;subst e2;exact ⟨_,[],e1,nC,by simp,Go.Src.ofNil w (xH hT).1 0⟩
   cases hq
 · rename_i t o N sz' cc hx;rcases tA hq with ⟨h1,hr1⟩ | ⟨_,hr1⟩
   · have:=aJ h1;subst this;split at hr1
     · rename_i q hT;obtain ⟨e',sz'⟩:=q;split at hr1
       · rename_i lb bt op st ht;rcases tA hr1 with ⟨h2,hr2⟩ | ⟨_,hr2⟩
         · cases hr2;simp only [aF] at h2;obtain ⟨v,e1,k1⟩:=tD hs hx;obtain ⟨c',rfl⟩:=Jh k1;obtain ⟨_,_,_,ob,g3,vs,junk,kl,rfl,_,_⟩:=hm.own t _ ht;have kk:=Eh (k:=m*sz) kl (aJ h2.1);have hlen:((vs.drop o).take (m*sz)).length=m*sz:=by rw [←uU kk];exact aJ h2.1
           have hone:=Tp kk h2.2;have hdrop:((vs++junk).drop o).take (m*sz)=(vs.drop o).take (m*sz):=by
            rw [bM,eK] at hlen;by_cases h0:m*sz=0
            · rw [h0];simp
            rw [hJ sU,fZ BM]
           exact ⟨_,(vs.drop o).take (m*sz),e1,kk,hlen,Go.Src.ofSlice w (xH hT).1 _ m c' _ hlen (Qh g3 hdrop.symm) (fun u hu=>dQ.1 hone u hu)⟩
         cases hr2
       cases hr1
     cases hr1
   cases hr1
 · rename_i s hx;rcases tA hq with ⟨h1,hr1⟩ | ⟨_,hr1⟩
   · have:=aJ h1;subst this;split at hr1
     · rename_i hT;cases hr1;obtain ⟨v,e1,k1⟩:=tD hs hx;obtain ⟨bs,rfl,k2⟩:=BB k1;have hlen:=uU k2;have hsz:(ByteArray.mk bs.toArray).size=uK l:=by
        rw [hlen,aT];show bs.toArray.size=_;simp
       have hbc:byteCells (ByteArray.mk bs.toArray)=bs.map fun b=>Value.int .u8 b.toNat:=by unfold byteCells;simp
       refine ⟨_,_,e1,k2,by rw [←hlen];omega,?_⟩;have:=Go.Src.ofString w hT (ByteArray.mk bs.toArray);rw [hsz,hbc] at this;exact this
     cases hr1
   cases hr1
 cases hq
end
section
variable {P:I6} {nx n:Nat} {ρ:Pl} {Φ:A2→Prop} {w0:E7 Φ} {w:I8} {E:Tr CV} {h:Tr CB} {a:Act}
theorem Ej {s x:I7} {T tx:I9} {v1 v2 v:Value} {w':I8} (e1:(eA a).ev s=some v1) (e2:(eA a).ev x=some v2) (hr:∀ ty,(Builtin.append_ #[T,tx] ty #[v1,v2]).run P w=.ok v w') (d:J0 Tmp) (ty:I9) (pos:String) (after:Array Edge) (g:J0 (Nat×Bool)) :
 (execOp a.eval ⟨d,.call ⟨.builtin .append,⟨[s,x]⟩,⟨[T,tx]⟩⟩,ty,pos,after,g⟩).run P w=.ok (.value v) w':=by
 simp only [execOp,resolve,invoke,builtin,bK,bO,aR,pL,dY,pV,yZ e1,yZ e2,hr]
theorem Yc {s x:I7} {T tx:I9} {v1 v2 v:Value} {w':I8} (e1:(eA a).ev s=some v1) (e2:(eA a).ev x=some v2) (hr:∀ ty,(Builtin.copy_ #[T,tx] ty #[v1,v2]).run P w=.ok v w') (d:J0 Tmp) (ty:I9) (pos:String) (after:Array Edge) (g:J0 (Nat×Bool)) :
 (execOp a.eval ⟨d,.call ⟨.builtin .copy,⟨[s,x]⟩,⟨[T,tx]⟩⟩,ty,pos,after,g⟩).run P w=.ok (.value v) w':=by
 simp only [execOp,resolve,invoke,builtin,bK,bO,aR,pL,dY,pV,yZ e1,yZ e2,hr]
theorem Tz {T tx e:I9} {i:TypeInfo} {zv:Value} {sz m N C:Nat} {base:J0 Addr} {xv:Value} {olds news:List Value} (hu:P.underlying T=some (.slice e)) (hi:P.info? e=some i) (hz:i.zero=some zv) (hsz:i.size=sz) (hzl:zv.cells.toList.length=sz) (h0:0<sz)
 (hold:(Builtin.firstCells i.size N (.slice base N C)).run P w.drew=.ok olds.toArray w.drew) (ho:olds.length=N*sz) (hs:Go.Src P sz tx xv m news w) (hC:C<N+m) (h1:(N+m)*i.bytes≤140737488355328) (h2:N+m≤4611686018427387904) :
 ∃ cap junk,(∀ ty,(Builtin.append_ #[T,tx] ty #[.slice base N C,xv]).run P w=.ok (.slice (some ⟨w.heap.size,0,none⟩) (N+m) cap) (w.drew.alloc (.cells (olds++news++junk).toArray e)))∧(olds++news).length+junk.length=cap*sz∧N+m≤cap∧cap≤maxLen:=by
 have hge:=grownCap_ge w (N+m) C e;have hml:N+m≤maxLen:=Qo;have hle:=grownCap_le_maxLen w (N+m) C e hml;refine ⟨grownCap w (N+m) C e,(Builtin.zeroCells zv.cells (grownCap w (N+m) C e - (N+m))).toList,fun ty=>?_,?_,hge,hle⟩
 · rw [←hsz] at hs;have hr:=run_append_grow_src (P:=P) w T tx ty e i zv hu hi hz base N C olds hold xv m news hs hC sU (growslice_fits hC h1);rw [hr];congr 3;apply qC;simp
 have hn:=hs.newsLen;have e1:zv.cells.size=sz:=by rw [←hzl];simp
 have hz1:(Builtin.zeroCells zv.cells (grownCap w (N+m) C e - (N+m))).toList.length=(grownCap w (N+m) C e - (N+m))*sz:=by rw [nX,size_zeroCells,e1]
 rw [aD,hz1,ho,hn,←fC,←fC];congr 1;omega
theorem Cm (w:I8) (o:Obj):D9 (fun _=>False) w (w.drew.alloc o):=(kZ _ w).drew.alloc o
theorem Bf (w:I8) (o:Obj):(w.drew.alloc o).heap.size=w.heap.size+1:=by show (w.heap.push o).size=_;simp
theorem Cn (w:I8) (o:Obj):(w.drew.alloc o).heap[w.heap.size]?=some o:=by
 rw [show w.heap.size=w.drew.heap.size from rfl,uS]
theorem BD {l:Rw} {vs junk:List Value} (hk:RL nx ρ l vs) (ty:Nat) {st:Nat}:DB nx ρ (vs.length+junk.length) (.cells l ty true st) (.cells (vs++junk).toArray ty (0,0)):=⟨vs,junk,hk,U,U,fun h=>by cases h⟩
theorem tO {α:Type} {b:Bool} {x y:α} (M:α→Prop) (h1:b=true→M x) (h2:b=false→M y):M (bif b then x else y):=by cases b;exact h2 U;exact h1 U
theorem tQ {a b:Nat} (h:Nat.ble a b=true):a≤b:=bD h
theorem ft {a b:Nat} (h:Nat.ble a b=false):b<a:=by
 rcases aN b a with h1 | h1
 · exact h1
 rw [Nat.ble_eq_true_of_le h1] at h;cases h
theorem IN {a b:Nat} (h:Nat.beq a b=false):a≠b:=fun e=>by subst e;simp at h
theorem Wd.kill {op:Op} {h' h2:Tr CB} {v:CV} {nx':Nat} (hm:Mem ρ w0 h nx w) (ho:Ya ρ h nx w ρ h2 w) (hw:Wd P op ρ w0 h2 nx a w (.val v h' nx')):Wd P op ρ w0 h nx a w (.val v h' nx'):=by
 obtain ⟨h1,v',w',ρ',e1,e2,e3,e4,e5,e6⟩:=hw;exact ⟨h1,v',w',ρ',e1,e2,e3,e4,ho.trans hm e5 (aH _) (gA _ _),e6⟩
theorem fu {T tx:Nat} {s x:I7} (hs:B4 ρ E nx n a) (hm:Mem ρ w0 h nx w) (hfit:nx≤Fit):Wd P (.call ⟨.builtin .append,⟨[s,x]⟩,⟨[T,tx]⟩⟩) ρ w0 h nx a w (wl P E h nx T tx s x):=by
 unfold wl;split
 · rename_i e sz by' z hz;obtain ⟨hu,i,zv,hi,hzv,hsz,hby,kz,hzl,h0⟩:=Np hz nx ρ;split
   · rename_i m news hsrc;obtain ⟨xv,nw,ex,kn,hnl,hS⟩:=ZV hs hm hsrc;split
     · -- from nil
       rename_i hsv;obtain ⟨v,e1,k1⟩:=tD hs hsv;have e2:=oF.1 k1.2;subst e2;refine tO (Wd _ _ _ _ _ _ _ _) (fun _=>trivial) fun hm0=>tO (Wd _ _ _ _ _ _ _ _) (fun hb=>?_) fun _=>trivial;have hm0:=IN hm0;simp only [aF] at hb;have hb1:m*by'≤140737488355328:=tQ hb.1;obtain ⟨cap,junk,hr,hlen,hc1,hc2⟩:=Tz (base:=none) (N:=0) (C:=0) (olds:=[]) hu hi hzv hsz hzl h0 (run_firstCells_none ..) tW hS sU (by rw [hby,cP];exact hb1) (by rw [cP];exact tQ hb.2.1);rw [cP] at hr hc1;simp only [fJ] at hr hlen;refine pQ (s:=nw.length+junk.length) hm hb.2.2 U (Cm w _) (Bf w _) (Cn w _) (BD (AV kn) e) (fun ρ' hρ=>?_) (cR nx) (Ej e1 ex hr);exact nE.2 ⟨cap,by rw [hρ],by rw [hρ,hlen];show 0+cap*sz=cap*sz;omega,hc1,hc2⟩
     · -- a slice
       rename_i t o N sz' c hsv;refine tO (Wd _ _ _ _ _ _ _ _) (fun _=>trivial) fun hne=>?_;have hsq:sz=sz':=by
        cases hb:Nat.beq sz sz' with
        | true=>exact aJ hb
        | false=>rw [hb] at hne;cases hne
       subst hsq;obtain ⟨v,e1,k1⟩:=tD hs hsv;obtain ⟨C,hC⟩:=Jh k1;subst hC;have hNC:N≤C:=by
        cases c with
        | some c'=>obtain ⟨q1,_,q3,_⟩:=kS.1 k1.2;cases q1;exact q3
        | none=>obtain ⟨c',q1,_,q3,_⟩:=nE.1 k1.2;cases q1;exact q3
       refine tO (Wd _ _ _ _ _ _ _ _) (fun hm0=>?_) fun hm0=>?_
       · -- nothing to append
         have hm0:=aJ hm0;subst hm0;have hnw:nw=[]:=dT (by rw [hnl,oC]);subst hnw;refine ⟨aH _,_,w,ρ,gA _ _,k1,hm,hfit,mZ,Ej e1 ex fun ty=>?_⟩;rw [←hsz] at hS;rcases hS.kind with ⟨e',hk⟩ | hk <;> simp [Builtin.append_,bB hu,bB hk,sizeOf,typeInfo,hi,hS.len,hNC,hS.cells,storeCells]
       have hm0:=IN hm0;split
       · rename_i l bt op st ht;refine tO (Wd _ _ _ _ _ _ _ _) (fun _=>trivial) fun hbt=>?_;have hbt:bt=e:=by
          cases hb:Nat.beq bt e with
          | true=>exact aJ hb
          | false=>rw [hb] at hbt;cases hbt
         subst hbt;have inplace:∀ c',N+m≤C→o+(N+m)*sz≤l.n→nx+1≤Fit→Kn nx ρ (.sl t o (N+m) sz c') (.slice (some ⟨(ρ t).1,o,none⟩) (N+m) C)→Wd P (.call ⟨.builtin .append,⟨[s,x]⟩,⟨[T,tx]⟩⟩) ρ w0 h nx a w (.val (.sl t o (Nat.add N m) sz c') (h.set (some (.cells (Vj (Nat.add o (Nat.mul N sz)) news l) bt op nx)) Fit t) (Nat.succ nx)):=fun c' hr1 hr2 hf1 hk=>by
          have hp:o+N*sz+nw.length≤l.n:=by rw [hnl,kR,←fC];exact hr2
          obtain ⟨cur,g1,g2,g3,g4⟩:=IM hm hfit ht kn hp;have hrun:=fun ty=>Ll (P:=P) (tx:=tx) (ty:=ty) hu hi g1 (x:=xv) (by rw [hsz];exact hS) hr1 (by rw [hsz];exact g2);rw [hsz] at hrun;have g5:=g4 _ (wT w (ρ t).1 _) PT;exact ⟨dO _,_,_,ρ,gA _ _,hk.up (dO _) (gA _ _),g5.1,hf1,g5.2,Ej e1 ex hrun⟩
         split
         · -- room known
           rename_i c';obtain ⟨q1,q2,q3,q4⟩:=kS.1 k1.2;cases q1;refine tO (Wd _ _ _ _ _ _ _ _) (fun hroom=>?_) fun hroom=>?_
           · have hroom:N+m≤C:=tQ hroom;refine tO (Wd _ _ _ _ _ _ _ _) (fun hfitl=>?_) fun _=>trivial;simp only [aF] at hfitl;exact inplace (some C) hroom (tQ hfitl.1) (tQ hfitl.2) ⟨k1.1,kS.2 ⟨U,q2,hroom,q4⟩⟩
           have hroom:C<N+m:=ft hroom;refine tO (Wd _ _ _ _ _ _ _ _) (fun hb=>?_) fun _=>trivial;simp only [aF] at hb;obtain ⟨hb1,hb2,hb3,hb4⟩:=hb;have hb1:(N+m)*by'≤140737488355328:=tQ hb1;obtain ⟨_,_,_,ob,p3,vs,junk0,kl,rfl,_,_⟩:=hm.own t _ ht;have kk:=Eh (k:=N*sz) kl (aJ hb4);have hlen:((vs.drop o).take (N*sz)).length=N*sz:=by rw [←uU kk];exact aJ hb4
           have hdrop:((vs++junk0).drop o).take (N*sz)=(vs.drop o).take (N*sz):=by
            rw [bM,eK] at hlen;by_cases h0:N*sz=0
            · rw [h0];simp
            rw [hJ sU,fZ BM]
           have hold:(Builtin.firstCells i.size N (.slice (some ⟨(ρ t).1,o,none⟩) N C)).run P w.drew=.ok ((vs.drop o).take (N*sz)).toArray w.drew:=
            run_firstCells_some w.drew i.size N _ N C _ (by rw [hsz];exact hlen) (fun j v hj=>by
             have:=Qh p3 hdrop.symm j v hj;simpa using this)
           obtain ⟨cap,junk,hr,hl2,hc1,hc2⟩:=Tz hu hi hzv hsz hzl h0 hold hlen hS hroom (by rw [hby];exact hb1) (tQ hb2);refine pQ (s:=((vs.drop o).take (N*sz)++nw).length+junk.length) hm hb3 U (Cm w _) (Bf w _) (Cn w _) (BD (AV (Hg kk kn)) bt) (fun ρ' hρ=>?_) (cR nx) (Ej e1 ex hr);exact nE.2 ⟨cap,by rw [hρ];rfl,by rw [hρ,hl2];show 0+cap*sz=cap*sz;omega,hc1,hc2⟩
         -- room unknown
         obtain ⟨C',q1,q2,q3,q4⟩:=nE.1 k1.2;cases q1;obtain ⟨p1,ps,p2,ob,p3,vs,junk0,kl,rfl,p5,p6⟩:=hm.own t _ ht;have hvl:=LG kl;refine tO (Wd _ _ _ _ _ _ _ _) (fun hfitl=>?_) fun hfitl=>?_
         · simp only [aF] at hfitl;have hff:=tQ hfitl.2;have hfitl:o+(N+m)*sz≤l.n:=tQ hfitl.1;have hroom:N+m≤C:=by
            have:(N+m)*sz≤C*sz:=sU;exact Nat.le_of_mul_le_mul_right this h0
           exact inplace none hroom hfitl hff ⟨k1.1,nE.2 ⟨C,U,q2,hroom,q4⟩⟩
         refine tO (Wd _ _ _ _ _ _ _ _) (fun hb=>?_) fun _=>trivial;simp only [aF] at hb;obtain ⟨⟨hb1,hb2⟩,hb3,hb4,hb5⟩:=hb;have ho:=aJ hb1;subst ho;have hNl:N*sz=l.n:=aJ hb2;have hb3:(N+m)*by'≤140737488355328:=tQ hb3;have hf5:nx+1≤Fit:=tQ hb5;by_cases hroom:N+m≤C
         · -- in its place
           have hfit2:0+N*i.size+nw.length≤((vs++junk0).toArray).size:=by
            have:(N+m)*sz≤C*sz:=jC _ hroom;rw [fC] at this;rw [hsz,hnl,oV,aD];omega
           have hrun:=fun ty=>Ll (P:=P) (tx:=tx) (ty:=ty) hu hi p3 (x:=xv) (by rw [hsz];exact hS) hroom hfit2;obtain ⟨ρ',r1,r2,r3,r4⟩:=hm.rename (b':=.cells (fb l news) bt true nx) (w':=w.setRow (ρ t).1 ((vs++junk0).toArray.toList.take (0+N*i.size)++nw++(vs++junk0).toArray.toList.drop (0+N*i.size+nw.length)).toArray) hf5 U ht (wT w (ρ t).1 _) (by rw [nL w (ρ t).1 _ _ bt _ p3]) (by
            refine ⟨vs++nw,junk0.drop nw.length,LF kl kn,?_,?_,fun hh=>by cases hh⟩
            · have e5:0+N*i.size=vs.length:=by rw [hsz,cP,hNl,hvl]
              rw [e5];simp only [List.take_left,oD]
            rw [aD,eK];have:(N+m)*sz≤C*sz:=jC _ hroom;rw [fC] at this;omega)
           refine ⟨dO _,_,_,ρ',r1,⟨cR nx,nE.2 ⟨C,?_,?_,hroom,q4⟩⟩,r3,hf5,r4,Ej e1 ex hrun⟩
           · rw [r2];rfl
           rw [r2];exact q2
         have hroom:C<N+m:=sU;have hold:(Builtin.firstCells i.size N (.slice (some ⟨(ρ t).1,0,none⟩) N C)).run P w.drew=.ok vs.toArray w.drew:=
          run_firstCells_some w.drew i.size N _ N C _ (by rw [hsz,←hvl];exact hNl.symm) (fun j v hj=>by
           have:=Qh p3 (o:=0) (m:=vs.length) (news:=vs) tW j v hj;simpa using this)
         obtain ⟨cap,junk,hr,hl2,hc1,hc2⟩:=Tz hu hi hzv hsz hzl h0 hold (by rw [←hvl];exact hNl.symm) hS hroom (by rw [hby];exact hb3) (tQ hb4);have hm2:=hm.kill hfit p1;refine Wd.kill (h2:=h.set none Fit t) hm hm2.2 ?_;refine pQ (s:=(vs++nw).length+junk.length) hm2.1 hb5 U (Cm w _) (Bf w _) (Cn w _) (BD (LF kl kn) bt) (fun ρ' hρ=>?_) (cR nx) (Ej e1 ex hr);exact nE.2 ⟨cap,by rw [hρ];rfl,by rw [hρ,hl2];show 0+cap*sz=cap*sz;omega,hc1,hc2⟩
       trivial
     trivial
   trivial
 trivial
end
section
variable {P:I6} {nx n:Nat} {ρ:Pl} {Φ:A2→Prop} {w0:E7 Φ} {w:I8} {E:Tr CV} {h:Tr CB} {a:Act}
theorem ZW {T tx:Nat} {d x:I7} (hs:B4 ρ E nx n a) (hm:Mem ρ w0 h nx w) (hfit:nx≤Fit):Wd P (.call ⟨.builtin .copy,⟨[d,x]⟩,⟨[T,tx]⟩⟩) ρ w0 h nx a w (wv P E h nx (.call ⟨.builtin .copy,⟨[d,x]⟩,⟨[T,tx]⟩⟩)):=by
 show Wd _ _ _ _ _ _ _ _ (match VP P T with
  | some (_,sz,_,_)=>match vO E d with
    | some (.sl t o n sz' _)=>match vO E x with
      | some (.sl t2 o2 n2 sz2 _)=>bif Nat.beq sz sz' && Nat.beq sz sz2 then
       (match h.get t with
       | some (.cells l bt op _)=>(match h.get t2 with
         | some (.cells l2 _ _ _) =>
           bif Nat.beq (uK (vC l2 o2 (Nat.mul (Nat.min n2 n) sz))) (Nat.mul (Nat.min n2 n) sz) && (Le (vC l2 o2 (Nat.mul (Nat.min n2 n) sz)) && (Nat.ble (Nat.add o (Nat.mul (Nat.min n2 n) sz)) l.n && Nat.ble (Nat.succ nx) Fit)) then
            .val (.int .i64 (Nat.min n2 n)) (h.set (some (.cells (Vj o (vC l2 o2 (Nat.mul (Nat.min n2 n) sz)) l) bt op nx)) Fit t) (Nat.succ nx) else .bad
         | _=>.bad)
       | _=>.bad) else .bad
      | some .nils=>.val (.int .i64 0) h nx
      | _=>.bad
    | _=>.bad
  | none=>.bad)
 split
 · rename_i e sz by' z hz;obtain ⟨hu,i,zv,hi,hzv,hsz,hby,kz,hzl,h0⟩:=Np hz nx ρ;split
   · rename_i t o N sz' c hd;obtain ⟨v,e1,k1⟩:=tD hs hd;obtain ⟨C,rfl⟩:=Jh k1;split
     · rename_i t2 o2 n2 sz2 c2 hx;obtain ⟨v2,e2,k2⟩:=tD hs hx;obtain ⟨C2,rfl⟩:=Jh k2;refine tO (Wd _ _ _ _ _ _ _ _) (fun hb=>?_) fun _=>trivial;simp only [aF] at hb;have q1:=aJ hb.1;have q2:=aJ hb.2;subst q1 q2;split
       · rename_i l bt op st ht;split
         · rename_i l2 bt2 op2 st2 ht2;refine tO (Wd _ _ _ _ _ _ _ _) (fun hb=>?_) fun _=>trivial;simp only [aF] at hb;obtain ⟨hb1,hb2,hb3,hb4⟩:=hb;obtain ⟨k,hk⟩:∃ k,k=Nat.min n2 N:=⟨_,U⟩
           rw [←hk] at hb1 hb2 hb3 ⊢;obtain ⟨_,_,_,ob,p3,vs,junk0,kl,rfl,_,_⟩:=hm.own t2 _ ht2;have kk:=Eh (k:=k*sz) kl (aJ hb1);have hlen:((vs.drop o2).take (k*sz)).length=k*sz:=by rw [←uU kk];exact aJ hb1
           have hdrop:((vs++junk0).drop o2).take (k*sz)=(vs.drop o2).take (k*sz):=by
            rw [bM,eK] at hlen;by_cases h0:k*sz=0
            · rw [h0];simp
            rw [hJ sU,fZ BM]
           have hp:o+((vs.drop o2).take (k*sz)).length≤l.n:=by rw [hlen];exact tQ hb3
           obtain ⟨cur,g1,g2,g3,g4⟩:=IM hm hfit ht kk hp;have hone:=Tp kk hb2;have hrun:=fun ty=>VO (P:=P) (tx:=tx) (ty:=ty) (dCap:=C) (sCap:=C2) hu hi g1 hk.symm (by rw [hsz];exact hlen) (Qh p3 hdrop.symm) (fun v hv=>dQ.1 hone v hv) g2;have g5:=g4 _ (wT w (ρ t).1 _) PT;exact ⟨dO _,_,_,ρ,gA _ _,Ah,g5.1,tQ hb4,g5.2,Yc e1 e2 hrun⟩
         trivial
       trivial
     · rename_i hx;obtain ⟨v2,e2,k2⟩:=tD hs hx;have q2:=oF.1 k2.2;subst q2;exact ⟨aH _,_,w,ρ,gA _ _,Ah,hm,hfit,mZ,Yc e1 e2 fun ty=>OY hu hi (Nat.zero_min _)⟩
     trivial
   trivial
 trivial
theorem nm {op:Op} (hs:B4 ρ E nx n a) (hm:Mem ρ w0 h nx w) (hfit:nx≤Fit):Wd P op ρ w0 h nx a w (wv P E h nx op):=by
 obtain ⟨r,hr⟩:∃ r,wv P E h nx op=r:=⟨_,U⟩
 have hr':=hr;unfold wv at hr;split at hr
 · rw [hr'];exact VQ hs hm hr'
 · rw [hr'];exact fq hs hm hr'
 · rw [hr'];exact VR hs hm hfit hr'
 · rw [hr'];exact Vn hs hm hr'
 · rw [hr'];exact BC hs hm hr'
 · exact fu hs hm hfit
 · exact ZW hs hm hfit
 rw [hr',←hr];trivial
end
def OZ {α:Type} (f:α→α) (l:List α):Nat→List α:=List.rec (fun _=>[]) (fun x xs ih n=>Nat.rec (f x :: xs) (fun n _=>x :: ih n) n) l
theorem LK {α:Type} (f:α→α):∀ (l:List α) (n:Nat),OZ f l n=l.modify n f
 | [],n=>by simp [OZ]
 | x :: l,0=>rfl
 | x :: l,n+1=>by show x :: OZ f l n=_;rw [LK f l n];rfl
def wo (P:I6) (E:Tr CV) (h:Tr CB) (nx:Nat) (T:I9):Ro:=bif Nat.ble (Nat.succ nx) Fit then
 (bif fk P T then .val (.mp nx) (h.set (some (.mapI [] nx)) Fit nx) (Nat.succ nx) else
  bif fl P T then .val (.mp nx) (h.set (some (.mapK [] nx)) Fit nx) (Nat.succ nx) else .bad) else .bad
def mv1 (P:I6) (E:Tr CV) (h:Tr CB) (nx:Nat) (T:I9) (x:I7) (i:I7) (c:Bool):Ro:=match vO E x with
 | some (.mp t)=>match vO E i with
   | some k=>match h.get t with
     | some (.mapI l _)=>match OW k with | some n=>(bif fk P T then .val (ij c (Vm On n l)) h nx else .bad) | none=>.bad
     | some (.mapK l _)=>match OX k with | some n=>(bif fl P T then .val (ij c (Vm ii n l)) h nx else .bad) | none=>.bad
     | _=>.bad
   | none=>.bad
 | _=>.bad
def mv2 (P:I6) (E:Tr CV) (h:Tr CB) (nx:Nat) (T:I9) (x:I7) (i:I7) (y:I7):Ro:=match vO E x with
 | some (.mp t)=>match vO E i with
   | some k=>match vO E y with
     | some (.int .i64 v)=>bif Nat.ble (Nat.succ nx) Fit then (match h.get t with
       | some (.mapI l _)=>match OW k with | some n=>(bif fk P T then .unit (h.set (some (.mapI (VM On n v l) nx)) Fit t) (Nat.succ nx) else .bad) | none=>.bad
       | some (.mapK l _)=>match OX k with | some n=>(bif fl P T then .unit (h.set (some (.mapK (VM ii n v l) nx)) Fit t) (Nat.succ nx) else .bad) | none=>.bad
       | _=>.bad) else .bad
     | _=>.bad
   | none=>.bad
 | _=>.bad
def mv3 (P:I6) (E:Tr CV) (h:Tr CB) (nx:Nat) (T:I9) (x:I7) (i:I7):Ro:=match vO E x with
 | some (.mp t)=>match vO E i with
   | some k=>bif Nat.ble (Nat.succ nx) Fit then (match h.get t with
     | some (.mapK l _)=>match OX k with
       | some n=>(bif fl P T then (match Vm ii n l with
         | none=>.val (.tup (.cons (.int .i64 0) (.cons (.int .i64 l.length) .nil))) (h.set (some (.mapK (l++[(n,0)]) nx)) Fit t) (Nat.succ nx)
         | some _=>.bad) else .bad)
       | none=>.bad
     | some (.mapI l _)=>match OW k with
       | some n=>(bif fk P T then (match Vm On n l with
         | none=>.val (.tup (.cons (.int .i64 0) (.cons (.int .i64 l.length) .nil))) (h.set (some (.mapI (l++[(n,0)]) nx)) Fit t) (Nat.succ nx)
         | some _=>.bad) else .bad)
       | none=>.bad
     | _=>.bad) else .bad
   | none=>.bad
 | _=>.bad
def mv4 (P:I6) (E:Tr CV) (h:Tr CB) (nx:Nat) (T:I9) (x:I7) (s:I7) (y:I7):Ro:=match vO E x with
 | some (.mp t)=>match vO E s with
   | some (.int .i64 m)=>match vO E y with
     | some (.int .i64 v)=>bif Nat.ble (Nat.succ nx) Fit && zY 0 m then (match h.get t with
       | some (.mapK l _)=>bif Nat.ble (Nat.succ m.toNat) l.length then .unit (h.set (some (.mapK (OZ (fun p=>(p.1,v)) l m.toNat) nx)) Fit t) (Nat.succ nx) else .bad
       | some (.mapI l _)=>bif Nat.ble (Nat.succ m.toNat) l.length then .unit (h.set (some (.mapI (OZ (fun p=>(p.1,v)) l m.toNat) nx)) Fit t) (Nat.succ nx) else .bad
       | _=>.bad) else .bad
     | _=>.bad
   | _=>.bad
 | _=>.bad
def mv5 (P:I6) (E:Tr CV) (h:Tr CB) (nx:Nat) (T:I9) (n:Nat) (parts:List (Nat×I7)):Ro:=bif Nat.beq n 0 && Nat.ble (Nat.succ nx) Fit then (match parts with
 | []=>match BK P T with
   | some (e,sz)=>.val (.sl nx 0 0 sz (some 0)) (h.set (some (.cells (Vk .nil) e false nx)) Fit nx) (Nat.succ nx)
   | none=>.bad
 | _=>.bad) else .bad
def mv6 (P:I6) (E:Tr CV) (h:Tr CB) (nx:Nat) (s:I9) (t:I9) (x:I7):Ro:=match vO E x with
 | some (.sl b o n sz c)=>match P.underlying t with
   | some (.slice e)=>match P.underlying e with
     | some (.int .u8)=>bif Nat.beq s t && Nat.ble (Nat.succ nx) Fit then (match h.get b with
       | some (.cells l ty false _)=>.val (.sl b o n sz c) (h.set (some (.ro l ty nx)) Fit b) (Nat.succ nx)
       | _=>.bad) else .bad
     | _=>.bad
   | _=>.bad
 | _=>.bad
def mv7 (P:I6) (E:Tr CV) (h:Tr CB) (nx:Nat) (T:I9) (x:I7):Ro:=match vO E x with
 | some (.ptr t o)=>match h.get t with
   | some (.ro l _ _)=>bif wZ P T then (match VE l o with | some c=>.val c h nx | none=>.bad) else .bad
   | _=>.bad
 | _=>.bad
def mv8 (P:I6) (E:Tr CV) (h:Tr CB) (nx:Nat) (T:I9) (x:I7) (i:I7):Ro:=match vO E x with
 | some (.str s)=>match P.underlying T with
   | some .string=>match vO E i with
     | some (.int _ m)=>bif zY 0 m then (match Tm s m.toNat with | some c=>.val c h nx | none=>.bad) else .bad
     | _=>.bad
   | _=>.bad
 | _=>.bad
def mv (P:I6) (E:Tr CV) (h:Tr CB) (nx:Nat):Op→Ro
 | .makeMap T none=>wo P E h nx T
 | .lookup T x i c=>mv1 P E h nx T x i c
 | .mapUpdate T x i y=>mv2 P E h nx T x i y
 | .mapEntry T x i=>mv3 P E h nx T x i
 | .entryStore T x s y=>mv4 P E h nx T x s y
 | .buildSlice T n ⟨parts⟩=>mv5 P E h nx T n parts
 | .convert s t x=>mv6 P E h nx s t x
 | .load T x=>mv7 P E h nx T x
 | .index T x i=>mv8 P E h nx T x i
 | _=>.bad
section
variable {P:I6} {nx n:Nat} {ρ:Pl} {Φ:A2→Prop} {w0:E7 Φ} {w:I8} {E:Tr CV} {h:Tr CB} {a:Act}
theorem BE {κ:Type} [DecidableEq κ] [A7 κ] {t:Nat} {b b':CB} {l:List (κ×Int)} (hm:Mem ρ w0 h nx w) (hfit:nx≤Fit) (ht:h.get t=some b) (hst:AS b'=nx) (hb:DB nx ρ (ρ t).2 b' (A4 l)) :
 Mem ρ w0 (h.set (some b') Fit t) (nx+1) { w with heap:=w.heap.setIfInBounds (ρ t).1 (A4 l) }∧Ya ρ h nx w ρ (h.set (some b') Fit t) { w with heap:=w.heap.setIfInBounds (ρ t).1 (A4 l) }:=
 hm.write hfit hst ht Pg (by simp [hm.lt ht]) hb
variable {κ:Type} [DecidableEq κ] [A7 κ] {T kt:I9}
theorem Vo {r:Nat} {xs:List (κ×Int)} {k:κ} {v:Int} (hT:F4 P T kt κ) (hb:w.heap[r]?=some (A4 xs)):(Instr.mapUpdate T (.map (some r)) (A7.val k) (.int .i64 v)).run P w =
 .ok () { w with heap:=w.heap.setIfInBounds r (A4 (Bk xs k v)) }:=by
 obtain ⟨⟨et,hu,hz⟩,hk⟩:=hT;simp only [Instr.mapUpdate,bK,bB hu,aR,gC (P:=P) hb,bO,hk.check,hk.look];cases hm:A9 xs k with
 | none =>
   rw [(zZ xs k).1 hm,zA xs k v hm];simp only [pK,gR (P:=P) _ hb,aR];congr 3;simp [A4,zM,tN]
 | some u =>
   obtain ⟨i,h1,h2,h3⟩:=Dr xs k hm;rw [h1,h3];have hg:(tN 0 xs)[i]?=some { key:=A7.val k,val:=.int .i64 u,born:=0+i }:=by rw [vI,h2];rfl
   simp only [dX,fV,jR,hg,dI,bK,hk.stays,aR,gR (P:=P) _ hb];congr 3;simp only [A4,aI,Cz xs i k u v h2];congr 1;apply qC;simp only [Array.toList_modify];apply fL;intro j;simp only [nP,vI];by_cases hij:i=j
   · subst hij;simp [h2]
   simp [hij]
theorem BF {r:Nat} {xs:List (κ×Int)} {k:κ} (hT:F4 P T kt κ) (hb:w.heap[r]?=some (A4 xs)) (hk0:A9 xs k=none):(Instr.mapEntry T (.map (some r)) (A7.val k)).run P w =
 .ok (.tuple #[.int .i64 0,.int .i64 xs.length]) { w with heap:=w.heap.setIfInBounds r (A4 (xs++[(k,0)])) }:=by
 obtain ⟨⟨et,hu,hz⟩,hk⟩:=hT;simp only [Instr.mapEntry,bK,bB hu,aR,gC (P:=P) hb,bO,hk.check,hk.look];rw [(zZ xs k).1 hk0];simp only [pK,bK,hz,aR,gR (P:=P) _ hb,bO,goInt];congr 3;simp [A4,zM,tN]
theorem Ua {r i:Nat} {xs:List (κ×Int)} {v:Int} (hb:w.heap[r]?=some (A4 xs)) (hi:i<xs.length):(Instr.entryStore T (.map (some r)) (.int .i64 i) (.int .i64 v)).run P w =
 .ok () { w with heap:=w.heap.setIfInBounds r (A4 (xs.modify i fun p=>(p.1,v))) }:=by
 obtain ⟨k,u,hku⟩:∃ k u,xs[i]?=some (k,u):=⟨_,_,aA hi⟩
 have hfind:(tN 0 xs).toArray.findIdx? (fun e=>(e.born:Int) == (i:Int))=some i:=by
  rw [List.findIdx?_toArray,jT];have hl:(tN 0 xs).length=xs.length:=zL xs 0;refine ⟨by omega,?_,?_⟩
  · have:=vI xs 0 i;rw [aA (show i<(tN 0 xs).length by omega),hku] at this;simp at this;simp [this]
  intro j hj;have:=vI xs 0 j;rw [aA (show j<(tN 0 xs).length by omega),aA (show j<xs.length by omega)] at this;simp at this;simp [this];omega
 simp only [Instr.entryStore,bK,gC (P:=P) hb,aR,asInt,asIntOf,bO];rw [hfind];simp only [gR (P:=P) _ hb,aR,bO];congr 3;have h3:=Cz xs i k u v hku 0;have h4:xs.modify i (fun p=>(p.1,v))=xs.set i (k,v):=by
  apply fL;intro j;rw [nP,cE];by_cases hij:i=j
  · subst hij;obtain ⟨_,hg⟩:=aW.1 hku;simp [hi,hg]
  simp [hij]
 rw [h4];simp only [A4,h3,aI];simp
theorem LL {κ:Type} [DecidableEq κ] [A7 κ] {eq:κ→κ→Bool} (he:∀ a b,eq a b=decide (a=b)) {T kt t:Nat} {x i:I7} {c:Bool} {l:List (κ×Int)} {b:CB} {k:κ} {kc:CV} (hT:F4 P T kt κ) (hs:B4 ρ E nx n a) (hm:Mem ρ w0 h nx w) (hfit:nx≤Fit)
 (hx:vO E x=some (.mp t)) (hi:vO E i=some kc) (hk:∀ v,Kn nx ρ kc v→v=A7.val k) (ht:h.get t=some b) (hb:∀ o,DB nx ρ (ρ t).2 b o→o=A4 l):Wd P (.lookup T x i c) ρ w0 h nx a w (.val (ij c (Vm eq k l)) h nx):=by
 obtain ⟨v1,e1,k1⟩:=tD hs hx;obtain ⟨v2,e2,k2⟩:=tD hs hi;have:=Tw k1;subst this;have:=hk _ k2;subst this;obtain ⟨_,_,_,o,h3,h4⟩:=hm.own t _ ht;have:=hb o h4;subst this;rw [Qc he];refine ⟨aH _,_,w,ρ,gA _ _,VN,hm,hfit,mZ,fun d ty pos after g=>?_⟩;simp only [execOp,yZ e1,yZ e2,bK,Jf hT h3 c,aR,bO]
theorem VS {κ:Type} [DecidableEq κ] [A7 κ] {eq:κ→κ→Bool} (he:∀ a b,eq a b=decide (a=b)) {T kt t:Nat} {x i y:I7} {l:List (κ×Int)} {b b':CB} {k:κ} {kc:CV} {v:Int} (hT:F4 P T kt κ) (hs:B4 ρ E nx n a) (hm:Mem ρ w0 h nx w) (hfit:Nat.ble (Nat.succ nx) Fit=true)
 (hx:vO E x=some (.mp t)) (hi:vO E i=some kc) (hy:vO E y=some (.int .i64 v)) (hk:∀ v,Kn nx ρ kc v→v=A7.val k) (ht:h.get t=some b) (hb:∀ o,DB nx ρ (ρ t).2 b o→o=A4 l) (hst:AS b'=nx) (hb':DB nx ρ (ρ t).2 b' (A4 (VM eq k v l))) :
 Wd P (.mapUpdate T x i y) ρ w0 h nx a w (.unit (h.set (some b') Fit t) (Nat.succ nx)):=by
 obtain ⟨v1,e1,k1⟩:=tD hs hx;obtain ⟨v2,e2,k2⟩:=tD hs hi;obtain ⟨v3,e3,k3⟩:=tD hs hy;have:=Tw k1;subst this;have:=hk _ k2;subst this;have:=iU.1 k3.2;subst this;obtain ⟨_,_,_,o,h3,h4⟩:=hm.own t _ ht;have:=hb o h4;subst this;have hf:=tQ hfit;obtain ⟨g1,g2⟩:=BE hm sU ht hst hb';refine ⟨dO _,_,ρ,gA _ _,g1,hf,g2,fun ty pos after g=>?_⟩;rw [ZT he];simp only [execOp,yZ e1,yZ e2,yZ e3,bK,Vo hT h3,aR,bO]
theorem VT {κ:Type} [DecidableEq κ] [A7 κ] {eq:κ→κ→Bool} (he:∀ a b,eq a b=decide (a=b)) {T kt t:Nat} {x i:I7} {l:List (κ×Int)} {b b':CB} {k:κ} {kc:CV} (hT:F4 P T kt κ) (hs:B4 ρ E nx n a) (hm:Mem ρ w0 h nx w) (hfit:Nat.ble (Nat.succ nx) Fit=true)
 (hx:vO E x=some (.mp t)) (hi:vO E i=some kc) (h0:Vm eq k l=none) (hk:∀ v,Kn nx ρ kc v→v=A7.val k) (ht:h.get t=some b) (hb:∀ o,DB nx ρ (ρ t).2 b o→o=A4 l) (hst:AS b'=nx) (hb':DB nx ρ (ρ t).2 b' (A4 (l++[(k,0)]))) :
 Wd P (.mapEntry T x i) ρ w0 h nx a w (.val (.tup (.cons (.int .i64 0) (.cons (.int .i64 l.length) .nil))) (h.set (some b') Fit t) (Nat.succ nx)):=by
 obtain ⟨v1,e1,k1⟩:=tD hs hx;obtain ⟨v2,e2,k2⟩:=tD hs hi;have:=Tw k1;subst this;have:=hk _ k2;subst this;obtain ⟨_,_,_,o,h3,h4⟩:=hm.own t _ ht;have:=hb o h4;subst this;have hf:=tQ hfit;rw [Qc he] at h0;obtain ⟨g1,g2⟩:=BE hm sU ht hst hb';refine ⟨dO _,.tuple #[.int .i64 0,.int .i64 l.length],_,ρ,gA _ _,⟨⟨I3,I3,I3⟩,rN.2 ⟨_,nJ.2 ⟨_,_,U,U,nJ.2 ⟨_,_,U,U,U⟩⟩,U⟩⟩,g1,hf,g2,fun d ty pos after g=>?_⟩;simp only [execOp,yZ e1,yZ e2,bK,BF hT h3 h0,aR,bO]
theorem VU {κ:Type} [DecidableEq κ] [A7 κ] {T t:Nat} {x s y:I7} {l:List (κ×Int)} {b b':CB} {m v:Int} (hs:B4 ρ E nx n a) (hm:Mem ρ w0 h nx w) (hfit:Nat.ble (Nat.succ nx) Fit=true)
 (hx:vO E x=some (.mp t)) (hi:vO E s=some (.int .i64 m)) (hy:vO E y=some (.int .i64 v)) (h0:0≤m) (hl:Nat.ble (Nat.succ m.toNat) l.length=true) (ht:h.get t=some b) (hb:∀ o,DB nx ρ (ρ t).2 b o→o=A4 l) (hst:AS b'=nx) (hb':DB nx ρ (ρ t).2 b' (A4 (OZ (fun p=>(p.1,v)) l m.toNat))) :
 Wd P (.entryStore T x s y) ρ w0 h nx a w (.unit (h.set (some b') Fit t) (Nat.succ nx)):=by
 obtain ⟨v1,e1,k1⟩:=tD hs hx;obtain ⟨v2,e2,k2⟩:=tD hs hi;obtain ⟨v3,e3,k3⟩:=tD hs hy;have:=Tw k1;subst this;have:=iU.1 k2.2;subst this;have:=iU.1 k3.2;subst this;obtain ⟨_,_,_,o,h3,h4⟩:=hm.own t _ ht;have:=hb o h4;subst this;have hf:=tQ hfit;obtain ⟨g1,g2⟩:=BE hm sU ht hst hb';refine ⟨dO _,_,ρ,gA _ _,g1,hf,g2,fun ty pos after g=>?_⟩;rw [LK];have hr:=Ua (P:=P) (T:=T) (w:=w) (v:=v) h3 (tQ hl);rw [cN h0] at hr;simp only [execOp,yZ e1,yZ e2,yZ e3,bK,hr,aR,bO]
theorem bq {ρ':Pl} {s:Nat} (h:ρ' nx=(w.heap.size,s)):DV ρ' (.mp nx) (.map (some w.heap.size)):=by rw [DV.mp,h]
theorem run_mark {t e:I9} {b o n c:Nat} {cs:Array Value} {ty:I9} (ht:P.underlying t=some (.slice e)) (he:P.underlying e=some (.int .u8)) (hb:w.heap[b]?=some (.cells cs ty (0,0))) :
 (convert t t (.slice (some ⟨b,o,none⟩) n c)).run P w=.ok (.slice (some ⟨b,o,none⟩) n c) (w.freeze ⟨b,cs.size,none⟩ 1):=by
 have hsh:w.shape? b=some (ty,cs.size):=by unfold World.shape?;rw [hb]
 simp [convert,bB ht,bB he,markStringish,hsh]
theorem IP {b k:Nat}:D9 (·=b) w (w.freeze ⟨b,k,none⟩ 1):=⟨U,U,U,by simp [World.freeze],fun j _ hj=>by
 have hj':b≠j:=fun e=>hj e.symm;simp [World.freeze,qJ,hj']⟩
theorem PB {b k:Nat} {cs:Array Value} {ty:I9} (hb:w.heap[b]?=some (.cells cs ty (0,0))):(w.freeze ⟨b,k,none⟩ 1).heap[b]?=some (.cells cs ty (k,k+1)):=by
 simp [World.freeze,qJ,hb]
theorem nn {op:Op} (hs:B4 ρ E nx n a) (hm:Mem ρ w0 h nx w) (hfit:nx≤Fit):Wd P op ρ w0 h nx a w (mv P E h nx op):=by
 unfold mv wo mv1 mv2 mv3 mv4 mv5 mv6 mv7 mv8;split
 · rename_i T;refine tO (Wd _ _ _ _ _ _ _ _) (fun hb=>?_) fun _=>trivial;have hr:∀ (d:J0 Tmp) (ty:I9) (pos:String) (after:Array Edge) (g:J0 (Nat×Bool)),(execOp a.eval ⟨d,.makeMap T none,ty,pos,after,g⟩).run P w=.ok (.value (.map (some w.heap.size))) (w.alloc (A4 ([]:List (Int×Int)))):=fun d ty pos after g=>by
    simp only [execOp,kL,bK,Aa,aR,bO];rfl
   refine tO (Wd _ _ _ _ _ _ _ _) (fun _=>?_) fun _=>?_
   · exact pQ (s:=0) hm hb U (vX w _) (wG w _) (uS w _) U (fun ρ' h=>bq h) (cR _) hr
   refine tO (Wd _ _ _ _ _ _ _ _) (fun _=>?_) fun _=>trivial;exact pQ (s:=0) hm hb U (vX w _) (wG w _) (uS w _) U (fun ρ' h=>bq h) (cR _) hr
 · rename_i T x i c;split
   · rename_i t hx;split
     · rename_i k hi;split
       · rename_i l st ht;split
         · rename_i m hk;refine tO (Wd _ _ _ _ _ _ _ _) (fun hT=>?_) fun _=>trivial;obtain ⟨kt,hT⟩:=AX hT;exact LL yY hT hs hm hfit hx hi (fun v hv=>Qd hk hv) ht fun o ho=>ho
         trivial
       · rename_i l st ht;split
         · rename_i m hk;refine tO (Wd _ _ _ _ _ _ _ _) (fun hT=>?_) fun _=>trivial;obtain ⟨kt,hT⟩:=AY hT;exact LL AW hT hs hm hfit hx hi (fun v hv=>Qe hk hv) ht fun o ho=>ho
         trivial
       trivial
     trivial
   trivial
 · rename_i T x i y;split
   · rename_i t hx;split
     · rename_i k hi;split
       · rename_i v hy;refine tO (Wd _ _ _ _ _ _ _ _) (fun hb=>?_) fun _=>trivial;split
         · rename_i l st ht;split
           · rename_i m hk;refine tO (Wd _ _ _ _ _ _ _ _) (fun hT=>?_) fun _=>trivial;obtain ⟨kt,hT⟩:=AX hT;exact VS yY hT hs hm hb hx hi hy (fun v hv=>Qd hk hv) ht (fun o ho=>ho) U U
           trivial
         · rename_i l st ht;split
           · rename_i m hk;refine tO (Wd _ _ _ _ _ _ _ _) (fun hT=>?_) fun _=>trivial;obtain ⟨kt,hT⟩:=AY hT;exact VS AW hT hs hm hb hx hi hy (fun v hv=>Qe hk hv) ht (fun o ho=>ho) U U
           trivial
         trivial
       trivial
     trivial
   trivial
 · rename_i T x i;split
   · rename_i t hx;split
     · rename_i k hi;refine tO (Wd _ _ _ _ _ _ _ _) (fun hb=>?_) fun _=>trivial;split
       · rename_i l st ht;split
         · rename_i m hk;refine tO (Wd _ _ _ _ _ _ _ _) (fun hT=>?_) fun _=>trivial;obtain ⟨kt,hT⟩:=AY hT;split
           · rename_i h0;exact VT AW hT hs hm hb hx hi h0 (fun v hv=>Qe hk hv) ht (fun o ho=>ho) U U
           trivial
         trivial
       · rename_i l st ht;split
         · rename_i m hk;refine tO (Wd _ _ _ _ _ _ _ _) (fun hT=>?_) fun _=>trivial;obtain ⟨kt,hT⟩:=AX hT;split
           · rename_i h0;exact VT yY hT hs hm hb hx hi h0 (fun v hv=>Qd hk hv) ht (fun o ho=>ho) U U
           trivial
         trivial
       trivial
     trivial
   trivial
 · rename_i T x s y;split
   · rename_i t hx;split
     · rename_i m hi;split
       · rename_i v hy;refine tO (Wd _ _ _ _ _ _ _ _) (fun hb=>?_) fun _=>trivial;rw [aF,wF,aO] at hb;split
         · rename_i l st ht;refine tO (Wd _ _ _ _ _ _ _ _) (fun hl=>?_) fun _=>trivial;exact VU hs hm hb.1 hx hi hy hb.2 hl ht (fun o ho=>ho) U U
         · rename_i l st ht;refine tO (Wd _ _ _ _ _ _ _ _) (fun hl=>?_) fun _=>trivial;exact VU hs hm hb.1 hx hi hy hb.2 hl ht (fun o ho=>ho) U U
         trivial
       trivial
     trivial
   trivial
 · rename_i T N parts;refine tO (Wd _ _ _ _ _ _ _ _) (fun hb=>?_) fun _=>trivial;rw [aF] at hb;have:=aJ hb.1;subst this;split
   · split
     · rename_i e sz hT;have hT':=xH hT;refine pQ (s:=0) hm hb.2 U (vX w _) (wG w _) (uS w _) (v:=.slice (some ⟨w.heap.size,0,none⟩) 0 0) (yO nC e) (fun ρ' h=>kS.2 ⟨by rw [h],by omega,by omega,by omega⟩) (cR _) fun d ty pos after g=>?_;simp [execOp,Instr.buildSlice,bB hT'.1,run_sizeOf w hT'.2,Instr.fill,newRow,show Array.range 0=#[] from nF tW]
     trivial
   trivial
 · rename_i s t x;split
   · rename_i b o N sz c hx;split
     · rename_i e ht;split
       · rename_i he;refine tO (Wd _ _ _ _ _ _ _ _) (fun hb=>?_) fun _=>trivial;rw [aF] at hb;have:=aJ hb.1;subst this;have hf:=tQ hb.2;split
         · rename_i l ty st hbk;obtain ⟨v,e1,k1⟩:=tD hs hx;obtain ⟨_,_,_,ob,h3,vs,junk,kl,rfl,hlen,hj⟩:=hm.own b _ hbk;have hj0:=hj U;subst hj0;rw [cK] at h3;obtain ⟨C,hv⟩:=Jh k1;subst hv;obtain ⟨m2,o2⟩:=hm.write (b':=.ro l ty nx) sU U hbk IP (PB (k:=vs.toArray.size) h3) ⟨vs,_,kl,U⟩;refine ⟨dO _,_,_,ρ,gA _ _,⟨k1.1.mono (dO _) _,k1.2⟩,m2,hf,o2,fun d ty pos after g=>?_⟩;simp only [execOp,yZ e1,bK,run_mark ht he h3,aR,bO]
         trivial
       trivial
     trivial
   trivial
 · rename_i T x;split
   · rename_i t o hx;split
     · rename_i l ty st ht;refine tO (Wd _ _ _ _ _ _ _ _) (fun h1=>?_) fun _=>trivial;split
       · rename_i c hc;obtain ⟨v,e1,k1⟩:=tD hs hx;have e3:=rO.1 k1.2;subst e3;obtain ⟨_,_,_,ob,h3,vs,fz,kl,rfl⟩:=hm.own t _ ht;obtain ⟨u,e2,k3⟩:=LH kl hc;refine ⟨aH _,u,w,ρ,gA _ _,k3,hm,hfit,mZ,fun d ty pos after g=>?_⟩;have hc:w.cell? ⟨(ρ t).1,o,none⟩=some u:=by rw [cell_of_block h3];simpa using e2
         simp [execOp,yZ e1,zI h1 hc]
       trivial
     trivial
   trivial
 · rename_i T x i;split
   · rename_i s hx;split
     · rename_i hT;split
       · rename_i k m hi;refine tO (Wd _ _ _ _ _ _ _ _) (fun h1=>?_) fun _=>trivial;rw [wF,aO] at h1;split
         · rename_i c hc;obtain ⟨v,e1,k1⟩:=tD hs hx;obtain ⟨bs,rfl,k2⟩:=BB k1;obtain ⟨v2,e2,k3⟩:=tD hs hi;have e3:=iU.1 k3.2;subst e3;obtain ⟨u,e4,k4⟩:=Lf k2 hc;refine ⟨aH _,u,w,ρ,gA _ _,k4,hm,hfit,mZ,fun d ty pos after g=>?_⟩;have e5:∃ b,bs[m.toNat]?=some b∧u=.int .u8 b.toNat:=by
            rw [bQ] at e4;cases hb:bs[m.toNat]? with
            | none=>rw [hb] at e4;cases e4
            | some b=>rw [hb] at e4;cases e4;exact ⟨b,U,U⟩
           obtain ⟨b,e6,rfl⟩:=e5;have e7:(ByteArray.mk bs.toArray)[m.toNat]?=some b:=by
            obtain ⟨hl,hg⟩:=aW.1 e6;have hs':m.toNat<(ByteArray.mk bs.toArray).size:=by show m.toNat<bs.toArray.size;simpa using hl
            rw [getElem?_pos (ByteArray.mk bs.toArray) m.toNat hs'];congr 1
           simp [execOp,yZ e1,yZ e2,Instr.index,asIntOf,bB hT,h1,e7]
         trivial
       trivial
     trivial
   trivial
 trivial
def wm (P:I6) (E:Tr CV) (h:Tr CB) (nx:Nat) (op:Op):Ro:=match wv P E h nx op with
 | .bad=>mv P E h nx op
 | r=>r
theorem np {op:Op} (hs:B4 ρ E nx n a) (hm:Mem ρ w0 h nx w) (hfit:nx≤Fit):Wd P op ρ w0 h nx a w (wm P E h nx op):=by
 unfold wm;have H:=nm (P:=P) (op:=op) hs hm hfit;split
 · exact nn hs hm hfit
 exact H
end
end Go.Sl.Ev
namespace Go.Sl
open Go
section
variable {P:I6} {B:Bs} {e:B0} {D:List Deferred} {H:Hp} {G:A2} {K:Act→I8→Prop} {ops:Array Oper} {rest:List Oper} {d:Nat} {ty:I9} {pos:String} {after:Array Edge}
end
end Go.Sl
namespace Go.Proofs.YtfdcckcadfhpeaaGreatDoor
open Go Go.Sl
theorem c73 (G:A2) (b:Nat):Does Tryz.prog 73 [.pointer (some ⟨b,0,none⟩)] G [] (fun v G' Ho=>v=.agg #[.pointer (some ⟨b,3,none⟩),.pointer (some ⟨b,7,none⟩),.pointer (some ⟨b,11,none⟩)]∧G'=G∧Ho=[]):=by
 refine D0 Tryz.func73 Tryz.ntmps73 fun w=>?_;refine aK 2 [] ?_;refine aV 0 U T.zero119 fun b1=>?_;refine bG 3 [] ?_;refine dL [0] [(0,10)] T.mixed [[0],[1],[2],[3],[4],[5],[6],[7],[8]] ?_;refine fH 9 [] U (sL (cs:=[_,_,_]) T.ar119 U U U) ?_;refine dB 10 ?_;refine aB 1 [0] ?_;refine bW ?_;refine kO sX I3 yF ?_;refine fI 2 [] ?_;refine cW (.inr U) (Ho:=Hp.only _ []) U (.agg 0 U U T.agg119) (bH _ _) ?_;exact ⟨U,U,U⟩
end Go.Proofs.YtfdcckcadfhpeaaGreatDoor
end
